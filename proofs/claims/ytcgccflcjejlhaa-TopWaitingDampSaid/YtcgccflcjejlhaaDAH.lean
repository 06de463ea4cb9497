/- Part of the proof: what the claim leans on. -/
import Derived.Test.YtcgccflcjejlhaaDAA
import Derived.Test.YtcgccflcjejlhaaDAC
import Derived.Test.YtcgccflcjejlhaaDAG
import Derived.Test.YtcgccflcjejlhaaDAF
import Derived.Test.YtcgccflcjejlhaaDAD
set_option linter.unusedSimpArgs false
set_option linter.unusedVariables false
namespace Go.Proofs.Ytcgccflcjejlhaa
open Go.RowKit
/-- A quote with one step: its numbers, and from which number on how much is taken off. -/
structure Qu where
  ar : Int
  bo : Int
  wa : Int
  tl : Int
  se : Int
  ru : Int
  wo : Int
  pl : Int
  fr : Int
  ma : Int
  sf : Int
  so : Int
structure QuIn (q : Qu) : Prop where
  ar : 1 ≤ q.ar ∧ q.ar ≤ 100000
  bo : 0 ≤ q.bo ∧ q.bo ≤ 100000
  wa : 0 ≤ q.wa ∧ q.wa ≤ 500
  tl : 0 ≤ q.tl ∧ q.tl ≤ 1000000
  se : 0 ≤ q.se ∧ q.se ≤ 1000000
  ru : 1 ≤ q.ru ∧ q.ru ≤ 100000
  wo : 0 ≤ q.wo ∧ q.wo ≤ 1000000
  pl : 1 ≤ q.pl ∧ q.pl ≤ 100000
  fr : 0 ≤ q.fr ∧ q.fr ≤ 1000000
  ma : 0 ≤ q.ma ∧ q.ma ≤ 1000
  sf : 1 ≤ q.sf ∧ q.sf ≤ 100000
  so : 0 ≤ q.so ∧ q.so ≤ 900
/-- The step lies there. -/
def StepR (W : World) (b o : Nat) (q : Qu) : Prop := b < W.heap.size ∧ W.cell? ⟨b, o, none⟩ = some (.int .i64 q.sf) ∧ W.cell? ⟨b, o + 1, none⟩ = some (.int .i64 q.so)
theorem StepR.below {W W' : World} {b o : Nat} {q : Qu} (h : StepR W b o q) (hb : Below W.heap.size W W') : StepR W' b o q :=
  ⟨Nat.lt_of_lt_of_le h.1 hb.size, (hb.cell (p := ⟨b, o, none⟩) h.1).trans h.2.1, (hb.cell (p := ⟨b, o + 1, none⟩) h.1).trans h.2.2⟩
def upQ (n d : Int) : Int := (n + d - 1) / d
def b1Q (q : Qu) (n : Int) : Int := n * q.ar
def b2Q (q : Qu) (n : Int) : Int := b1Q q n * (1000 + q.wa)
def b3Q (q : Qu) (n : Int) : Int := b2Q q n * q.bo
/-- The parts of what boxes cost, all together, what is taken off, and the price. -/
def boardQ (q : Qu) (n : Int) : Int := upQ (b3Q q n) 10000000000
def setQ (q : Qu) (n : Int) : Int := q.se * upQ n q.ru
def workQ (q : Qu) (n : Int) : Int := upQ (q.wo * n) 1000
def frQ (q : Qu) (n : Int) : Int := q.fr * upQ n q.pl
def costQ (q : Qu) (n : Int) : Int := boardQ q n + q.tl + setQ q n + workQ q n + frQ q n
def offQ (q : Qu) (n : Int) : Int := if q.sf ≤ n then q.so else 0
def p1Q (q : Qu) (n : Int) : Int := costQ q n * (1000 + q.ma)
def p2Q (q : Qu) (n : Int) : Int := p1Q q n * (1000 - offQ q n)
def priceQ (q : Qu) (n : Int) : Int := upQ (p2Q q n) 1000000
structure QuNo (q : Qu) (n : Int) : Prop where
  b1 : 0 ≤ b1Q q n ∧ b1Q q n ≤ 10000000000
  b2 : 0 ≤ b2Q q n ∧ b2Q q n ≤ 15000000000000
  b3 : 0 ≤ b3Q q n ∧ b3Q q n ≤ 1500000000000000000
  bd : 0 ≤ boardQ q n ∧ boardQ q n ≤ 151000001
  ur : 0 ≤ upQ n q.ru ∧ upQ n q.ru ≤ 100001
  st : 0 ≤ setQ q n ∧ setQ q n ≤ 100001000000
  wn : 0 ≤ q.wo * n ∧ q.wo * n ≤ 100000000000
  wk : 0 ≤ workQ q n ∧ workQ q n ≤ 100000001
  up : 0 ≤ upQ n q.pl ∧ upQ n q.pl ≤ 100001
  fr : 0 ≤ frQ q n ∧ frQ q n ≤ 100001000000
  co : 0 ≤ costQ q n ∧ costQ q n ≤ 300000000000
  of : 0 ≤ offQ q n ∧ offQ q n ≤ 900
  p1 : 0 ≤ p1Q q n ∧ p1Q q n ≤ 600000000000000
  p2 : 0 ≤ p2Q q n ∧ p2Q q n ≤ 600000000000000000
  pr : 0 ≤ priceQ q n ∧ priceQ q n ≤ 600000000001
end Go.Proofs.Ytcgccflcjejlhaa
namespace Go.Proofs.Ytcgccflcjejlhaa
open Go.RowKit
theorem inP_value {n : Nat} {P : Program} {ops : Array Oper} {Q : Exit → Act → World → Prop} {i d N : Nat} {L : List Nat} {g : Nat → Value} {W : World} {o : Oper} {v : Value} (ho : ops[i]? = some o) (hg : o.guard = none) (hd : o.dst = some d) (hr : (execOp (fr N g).eval o).run P W = .ok (.value v) W)
    (h : wpOpsIn Fence.wide n P ops Q L (fr N (upd g d v)) W) : wpOpsIn Fence.wide n P ops Q (i :: L) (fr N g) W := by
  rw [wpOpsIn_cons]
  unfold wpOpIn
  simp only [ho, Region.wanted, hg, if_true]
  refine ⟨fun _ _ => trivial, ?_⟩
  show o.uponIn _ _ _ _ _ _ ((execOp (fr N g).eval o).run P W)
  rw [hr]
  show wpOpsIn _ _ _ _ _ _ ((fr N g).put o.dst v) W
  rw [hd, fr_put]; exact h
theorem inP_round {n : Nat} {P : Program} {ops : Array Oper} {Q : Exit → Act → World → Prop} {i d N l : Nat} {args : Array Value} {L : List Nat} {g : Nat → Value} {W : World} {o : Oper} {R : Ending → World → Prop} (ho : ops[i]? = some o) (hg : o.guard = none) (hd : o.dst = some d) (hr : (execOp (fr N g).eval o).run P W = (Instr.yield l args).run P W)
    (hy : YieldAt Fence.wide (n - 1) P l args W R) (hK : ∀ v W', R (.returned v) W' → wpOpsIn Fence.wide n P ops Q L (fr N (upd g d v)) W') (h1 : ∀ W', ¬ R .outgrown W') (h2 : ∀ c W', ¬ R (.panicked c) W') : wpOpsIn Fence.wide n P ops Q (i :: L) (fr N g) W := by
  rw [wpOpsIn_cons]
  unfold wpOpIn
  simp only [ho, Region.wanted, hg, if_true]
  refine ⟨fun _ _ => trivial, ?_⟩
  show o.uponIn _ _ _ _ _ _ ((execOp (fr N g).eval o).run P W)
  obtain ⟨fn, tmps, assign, body, h3, h4⟩ := hy
  rw [hr, h3, Oper.uponIn_round]
  refine ⟨fun h => by simp [Fence.wide] at h, h4.mono fun e W' he => ?_⟩
  cases e with
  | returned v =>
    show wpOpsIn _ _ _ _ _ _ ((fr N g).put o.dst v) W'
    rw [hd, fr_put]; exact hK v W' he
  | panicked c => exact absurd he (h2 c W')
  | outgrown => exact absurd he (h1 W')
theorem inQ_value {n : Nat} {P : Program} {ops : Array Oper} {Q : Exit → Act → World → Prop} {i d N l0 : Nat} {L : List Nat} {g : Nat → Value} {W : World} {o : Oper} {v : Value} (ho : ops[i]? = some o) (hg : o.guard = none) (hnd : ∀ c, o.op ≠ .defer c) (hd : o.dst = some d) (hr : (execOp (fr N g).eval o).run P W = .ok (.value v) W)
    (h : wpOpsIn (Fence.wide.inRound l0) n P ops Q L (fr N (upd g d v)) W) : wpOpsIn (Fence.wide.inRound l0) n P ops Q (i :: L) (fr N g) W := by
  rw [wpOpsIn_cons]
  unfold wpOpIn
  simp only [ho, Region.wanted, hg, if_true]
  refine ⟨fun _ _ => trivial, ?_⟩
  rw [Oper.semAt_eq _ _ _ hnd]
  show o.uponIn _ _ _ _ _ _ ((execOp (fr N g).eval o).run P W)
  rw [hr]
  show wpOpsIn _ _ _ _ _ _ ((fr N g).put o.dst v) W
  rw [hd, fr_put]; exact h
theorem fr_set {N p : Nat} {g : Nat → Value} {v : Value} : ({ tmps := (fr N g).tmps.setIfInBounds p v, defers := [] } : Act) = fr N (upd g p v) := fr_put N g p v
end Go.Proofs.Ytcgccflcjejlhaa
namespace Go.Proofs.Ytcgccflcjejlhaa
open Go.RowKit
/-- The cells of the first rounds. -/
def rowC (f : Nat → List Value) : Nat → List Value
  | 0 => []
  | i + 1 => rowC f i ++ f i
theorem rowC_len {f : Nat → List Value} {z : Nat} (hz : ∀ i, (f i).length = z) : ∀ i, (rowC f i).length = i * z
  | 0 => by simp [rowC]
  | i + 1 => by rw [rowC, List.length_append, rowC_len hz i, hz, Nat.add_mul, Nat.one_mul]
theorem rowC_at {f : Nat → List Value} {z : Nat} (hz : ∀ i, (f i).length = z) {j : Nat} (hj : j < z) : ∀ n i, i < n → (rowC f n)[i * z + j]? = (f i)[j]?
  | 0, i, h => absurd h (Nat.not_lt_zero _)
  | n + 1, i, h => by
    rw [rowC]
    rcases Nat.lt_or_ge i n with h1 | h1
    · rw [List.getElem?_append_left (by rw [rowC_len hz]; have : (i + 1) * z ≤ n * z := Nat.mul_le_mul_right _ h1; rw [Nat.add_mul, Nat.one_mul] at this; omega)]
      exact rowC_at hz hj n i h1
    · obtain rfl : i = n := by omega
      rw [List.getElem?_append_right (by rw [rowC_len hz]; omega), rowC_len hz, Nat.add_sub_cancel_left]
/-- What the loop has behind i rounds. -/
def ColV (w : World) (V b2 : Nat) (TB TE : TypeId) (z : Nat) (f : Nat → List Value) (i : Nat) (G : Nat → Prop) (W : World) : Prop :=
  Below w.heap.size w W ∧ V ≤ W.heap.size ∧ ∃ (a : Option Addr) (c : Nat), W.heap[b2]? = some (.cells #[.slice a i c] TB (0, 0)) ∧ OwnN TE z w.heap.size i (rowC f i) a c W ∧ (∀ g, a = some ⟨g, 0, none⟩ → V ≤ g) ∧ (∀ b, G b ↔ b = b2 ∨ a = some ⟨b, 0, none⟩)
theorem ownN_keep {T : TypeId} {z B n c : Nat} {cs : List Value} {a : Option Addr} {S : Nat → Prop} {W W' : World} (h : OwnN T z B n cs a c W) (hk : KeepP S W W') (hn : ∀ g, a = some ⟨g, 0, none⟩ → ¬ S g) : OwnN T z B n cs a c W' := by
  rcases h with h | ⟨g, e, h⟩
  · exact .inl h
  · exact .inr ⟨g, e, h.same hk.size fun x hx => hk.block _ _ (hn g e) hx⟩
theorem colV_stab {w : World} {V b2 : Nat} {TB TE : TypeId} {z : Nat} {f : Nat → List Value} {X : Nat → Prop} (hV : w.heap.size ≤ V) (hb2 : b2 < V) (hX : ∀ b, X b → w.heap.size ≤ b ∧ b < V ∧ b ≠ b2) : StabX X (ColV w V b2 TB TE z f) V := by
  rintro i G W W' ⟨h1, h2, a, c, h3, h4, h5, h6⟩ hk
  refine ⟨h1.trans (hk.below (fun b hb => hb.elim (fun h => (hX b h).1) fun h => Nat.le_trans hV h.1) h1.size), Nat.le_trans h2 hk.size, a, c, hk.block _ _ (fun e => e.elim (fun e => (hX _ e).2.2 rfl) fun e => by omega) h3, ownN_keep h4 hk (fun g e hs => hs.elim (fun h => by have := h5 g e; have := hX g h; omega) fun h => h.2 ((h6 g).2 (.inr e))), h5, h6⟩
theorem colV_ge {w : World} {V b2 : Nat} {TB TE : TypeId} {z : Nat} {f : Nat → List Value} (hb2 : w.heap.size ≤ b2) {i : Nat} {G : Nat → Prop} {W : World} (h : ColV w V b2 TB TE z f i G W) : ∀ b, G b → w.heap.size ≤ b ∧ b < W.heap.size := by
  obtain ⟨h1, h2, a, c, h3, h4, h5, h6⟩ := h
  intro b hb
  rcases (h6 b).1 hb with rfl | e
  · exact ⟨hb2, lt_of_blk h3⟩
  · exact h4.lim b e
/-- One round: the append and the store. -/
theorem colV_step {w X X1 : World} {V b2 e : Nat} {TB TE : TypeId} {z by_ : Nat} {zero : Value} {f : Nat → List Value} {i : Nat} {G : Nat → Prop} {T' : TypeId} (h : ColV w V b2 TB TE z f i G X) (hu : Try.prog.underlying TB = some (.slice TE)) (hi : (Try.prog.info? TE).map (fun i => (i.zero, i.size, i.bytes)) = some (some zero, z, by_)) (hzz : decide (0 < z ∧ zero.cells.size = z) = true)
    (hz : (f i).length = z) (hT : (TB != TE) = true) (h1c : (f i).all (·.oneCell') = true) (hn : (i + 1) * (by_ + 1) ≤ 1000000000) (hb2 : w.heap.size ≤ b2 ∧ b2 < V)
    (hb1 : Below X.heap.size X X1) (he : X1.heap[e]? = some (.cells (f i).toArray T' (0, 0))) :
    ∃ a c g2 c2 X2, X1.heap[b2]? = some (.cells #[.slice a i c] TB (0, 0)) ∧ (Builtin.append_ #[TB, TB] TB #[.slice a i c, .slice (some ⟨e, 0, none⟩) 1 1]).run Try.prog X1 = .ok (.slice (some ⟨g2, 0, none⟩) (i + 1) c2) X2 ∧ X2.heap[b2]? = some (.cells #[.slice a i c] TB (0, 0)) ∧
      ColV w V b2 TB TE z f (i + 1) (fun b => b = b2 ∨ b = g2) (X2.setRow b2 #[.slice (some ⟨g2, 0, none⟩) (i + 1) c2]) ∧ KeepP G X (X2.setRow b2 #[.slice (some ⟨g2, 0, none⟩) (i + 1) c2]) ∧ ∀ b, b = b2 ∨ b = g2 → G b ∨ X.heap.size ≤ b := by
  obtain ⟨h1, h2, a, c, h3, h4, h5, h6⟩ := h
  have h3' := blk_below h3 hb1
  have fX1 := below_trans h1 hb1
  have zX1 := hb1.size
  obtain ⟨g2, c2, X2, ra, ow, ot, z2, gg, fX2⟩ := growN_tail TB TB TE z by_ zero hu hi hzz (rowC f (i + 1)) (i + 1) (b := e) (off := 0) (k := 1) (c' := 1) (f i) fX1 (h4.below hb1) rfl rfl (decide_eq_true ⟨by omega, by decide⟩) h1c (fun j u hj => cells_at he j u hj) hn
  have hne := ownN_ne h4 h3 hT
  have h3x := ot _ _ hne h3'
  obtain ⟨X3, hX3⟩ : ∃ Y, Y = X2.setRow b2 #[.slice (some ⟨g2, 0, none⟩) (i + 1) c2] := ⟨_, rfl⟩
  suffices hs : ColV w V b2 TB TE z f (i + 1) (fun b => b = b2 ∨ b = g2) X3 ∧ KeepP G X X3 ∧ ∀ b, b = b2 ∨ b = g2 → G b ∨ X.heap.size ≤ b from ⟨a, c, g2, c2, X2, h3', ra, h3x, hX3 ▸ hs.1, hX3 ▸ hs.2.1, hs.2.2⟩
  obtain ⟨fX3, nb, ot3, z3⟩ := seg_facts hX3 fX2 h3x hb2.1
  clear hX3
  have hg2 : g2 ≠ b2 := fun e' => by
    rcases gg with gg | gg
    · exact hne g2 gg e'
    · have := lt_of_blk h3; omega
  have hG2 : ∀ b, b = b2 ∨ b = g2 → G b ∨ X.heap.size ≤ b := fun b hb => by
    rcases hb with rfl | rfl
    · exact .inl ((h6 _).2 (.inl rfl))
    · rcases gg with gg | gg
      · exact .inl ((h6 _).2 (.inr gg))
      · exact .inr (by omega)
  refine ⟨⟨fX3, by omega, some ⟨g2, 0, none⟩, c2, nb, .inr ⟨g2, rfl, ow.other ot3 hg2 z3⟩, fun g e' => ?_, fun b => by simp [eq_comm]⟩, ⟨fX3.os.trans h1.os.symm, fX3.tape.trans h1.tape.symm, fX3.output.trans h1.output.symm, by omega, fun k o hk hx => ot3 _ _ (fun e' => hk ((h6 _).2 (.inl e'))) (ot _ _ (fun g e' h => hk ((h6 _).2 (.inr (h ▸ e')))) ((hb1.block _ (Array.getElem?_eq_some_iff.1 hx).1).trans hx))⟩, hG2⟩
  cases e'
  rcases gg with gg | gg
  · exact h5 _ gg
  · omega
end Go.Proofs.Ytcgccflcjejlhaa
namespace Go.Proofs.Ytcgccflcjejlhaa
open Go.RowKit
theorem keepX_P {b : Nat} {S : Nat → Prop} {W W' : World} (h : KeepX b W W') (hs : S b) : KeepP S W W' := ⟨h.os, h.tape, h.output, h.size, fun k o hk hx => h.block k o (fun e => hk (by rw [e]; exact hs)) hx⟩
theorem keepX_row {b : Nat} {cs : Array Value} {W W' : World} (h : W' = W.setRow b cs) : KeepX b W W' := by
  subst h
  refine ⟨rfl, rfl, rfl, ?_, fun k o hk hx => ?_⟩
  · simp [World.setRow]
  · simp only [World.setRow]
    rw [Array.getElem?_modify, if_neg (fun e => hk e.symm)]; exact hx
/-- What is known of a moisture after the first stays. -/
def moF (up dn lo hi : Int) (ds : Nat → Ds) : Nat → Int × Int
  | 0 => (lo, hi)
  | i + 1 => (towF up dn (moF up dn lo hi ds i).1 (ds i).lo (ds i).hr, towF up dn (moF up dn lo hi ds i).2 (ds i).hi (ds i).hr)
theorem towF_le {up dn a b ra rb h : Int} (hu : 0 ≤ up) (hd : 0 ≤ dn) (hh : 0 ≤ h) (hab : a ≤ b) (hr : ra ≤ rb) : towF up dn a ra h ≤ towF up dn b rb h := by
  have h1 := Int.mul_nonneg hu hh
  have h2 := Int.mul_nonneg hd hh
  unfold towF; split <;> split <;> omega
theorem moF_in {up dn lo hi : Int} {ds : Nat → Ds} {n : Nat} (gu : 0 ≤ up ∧ up ≤ 50) (gd : 0 ≤ dn ∧ dn ≤ 50) (hm : MoIn lo hi) (ho : ∀ i, i < n → DsIn (ds i)) : ∀ i, i ≤ n → MoIn (moF up dn lo hi ds i).1 (moF up dn lo hi ds i).2
  | 0, _ => hm
  | i + 1, h => by
    have ih := (moF_in gu gd hm ho i (by omega)).h
    have hd_ := ho i (by omega)
    have h1 := hd_.m; have h2 := hd_.h
    have a := (towF_bd gu gd (show 0 ≤ (moF up dn lo hi ds i).1 ∧ (moF up dn lo hi ds i).1 ≤ 300 by omega) (show 0 ≤ (ds i).lo ∧ (ds i).lo ≤ 300 by omega) (show 0 ≤ (ds i).hr ∧ (ds i).hr ≤ 501 by omega)).2.2
    have b := (towF_bd gu gd (show 0 ≤ (moF up dn lo hi ds i).2 ∧ (moF up dn lo hi ds i).2 ≤ 300 by omega) (show 0 ≤ (ds i).hi ∧ (ds i).hi ≤ 300 by omega) (show 0 ≤ (ds i).hr ∧ (ds i).hr ≤ 501 by omega)).2.2
    have c := towF_le (a := (moF up dn lo hi ds i).1) (b := (moF up dn lo hi ds i).2) (ra := (ds i).lo) (rb := (ds i).hi) gu.1 gd.1 h2.1 ih.2.1 h1.2.1
    exact ⟨by show 0 ≤ towF up dn (moF up dn lo hi ds i).1 (ds i).lo (ds i).hr ∧ towF up dn (moF up dn lo hi ds i).1 (ds i).lo (ds i).hr ≤ towF up dn (moF up dn lo hi ds i).2 (ds i).hi (ds i).hr ∧ towF up dn (moF up dn lo hi ds i).2 (ds i).hi (ds i).hr ≤ 300; omega⟩
set_option maxRecDepth 100000 in
set_option maxHeartbeats 8000000 in
theorem values_it (a : Option Addr) (n c : Nat) (xs : List Int) {w : World} (hX : Ii w a n c xs) (hn : n ≤ 1000) (bw l : Nat) (G1 : Nat → Prop) (J : Nat → (Nat → Prop) → World → Prop) (v1 : World) (hB0 : Below w.heap.size w v1) (hbw : v1.heap[bw]? = some (.cells #[.slice a n c] 25 (0, 0))) (hJs : StabX (fun _ => False) J v1.heap.size) (hJG : ∀ i G W, J i G W → ∀ b, G b → w.heap.size ≤ b ∧ b < W.heap.size) (hY : ∀ i G W, i < n → J i G W → v1.heap.size ≤ W.heap.size → YieldAt Fence.wide 8 Try.prog l #[.int .i64 (elT xs i)] W (YldG J i G W)) (hJ0 : J 0 G1 v1) :
  CallsIn Fence.wide 9 Try.prog 99 #[.func (.yield l) #[] #[], .pointer (some ⟨bw, 0, none⟩)] v1 fun e W' => (∃ v, e = .returned v) ∧ ∃ G, J n G W' := by
 obtain ⟨bz, oz, hX_⟩ := hX.open
 refine callsIn_wide.2 (calls_frM (n := 9) Try.func99 Try.ntmps99 rfl rfl fun g hg => ?_)
 have k0 : g 0 = .func (.yield l) #[] #[] := hg 0
 have k1 : g 1 = .pointer (some ⟨bw, 0, none⟩) := hg 1
 clear hg
 have lt_bw := lt_of_blk hbw
 refine wp_seq_k fun K1 hK1 => ?_
 refine region_dk 3 [(5, 0), (6, 1), (7, 2)] [[], [0], []] (rel [is (.slice (a) (n) (c)),
   is (.int .i64 ((n : Int))),
   is (.int .i64 0)])
  ⟨is_k, is_k, is_k, trivial⟩
  ⟨fun f s W m p q r u j => opv rfl rfl (by simp [go_sem, j.e 1 k1, cb hbw m 0]) rfl,
  fun f s W m p q r u j => opv rfl rfl (by simp [go_sem, j.e 5 (p 0 rfl)]) rfl,
  fun f s W m p q r u j => opv rfl rfl (by simp [go_sem]) rfl, trivial⟩ ?_
 intro f1 s1 W1 hB1 g1 hg1
 have fB1 := hB1.f hB0
 have z1 := hB1.below.size
 have b1_0 := hB1.b hbw
 have q1' := (StabX.below hJs hJ0 hB1.below)
 refine hK1 _ _ ?_
 have k1_0 := kt hg1 0 k0
 have k1_5 := kt hg1 5 (hB1.is 0)
 have k1_6 := kt hg1 6 (hB1.is 1)
 have k1_7 := kt hg1 7 (hB1.is 2)
 refine wp_block ?_
 refine wp_loop_n (fun m_ a_ W_ => ∃ g_ : Nat → Value, a_ = fr 16 g_ ∧ (∃ k : Nat, ∃ G : Nat → Prop, m_ = n - k ∧ g_ 0 = .func (.yield l) #[] #[] ∧ g_ 5 = .slice (a) (n) (c) ∧ g_ 6 = .int .i64 ((n : Int)) ∧ g_ 7 = .int .i64 ((k : Int)) ∧ Below w.heap.size w W_ ∧ W1.heap.size ≤ W_.heap.size ∧ J k G W_ ∧ (k ≤ n))) ⟨_, g1, rfl, 0, G1, rfl, k1_0, k1_5, k1_6, k1_7.trans (by rfl), fB1, Nat.le_refl _, q1', (by omega)⟩ ?_
 rintro _ _ W_2 ⟨g_2, rfl, k, G, rfl, k_2_0, k_2_5, k_2_6, k_2_7, fB_2, z_2, q3', lk0⟩
 refine wp_seq_k fun K2 hK2 => ?_
 refine region_dk 1 [(8, 0)] [[]] (rel [is (.bool (decide ((k : Int) < (n : Int))))])
  ⟨is_k, trivial⟩
  ⟨fun f s W m p q r u j => opv rfl rfl (by simp [go_sem, j.e 7 k_2_7, j.e 6 k_2_6]) rfl, trivial⟩ ?_
 intro f2 s2 W2 hB2 g2 hg2
 have fB2 := hB2.f fB_2
 have z2 := hB2.below.size
 have q4' := (StabX.below hJs q3' hB2.below)
 refine hK2 _ _ ?_
 have k2_0 := kt hg2 0 k_2_0
 have k2_5 := kt hg2 5 k_2_5
 have k2_6 := kt hg2 6 k_2_6
 have k2_7 := kt hg2 7 k_2_7
 have k2_8 := kt hg2 8 (hB2.is 0)
 refine wp_seq_k fun K3 hK3 => ?_
 refine wp_cond_split (t := decide ((k : Int) < (n : Int))) ((fr_eval rfl).trans k2_8) (fun hc4 => ?_) (fun hc4 => ?_)
 ·
  have hc4' := hc4; try simp only [ba] at hc4'
  have hkn : k < n := by omega
  refine wp_skip ?_
  refine hK3 _ _ ?_
  refine wp_seq_k fun K5 hK5 => ?_
  refine wp_block ?_
  refine wp_seq_k fun K6 hK6 => ?_
  refine region_dk 3 [(9, 0), (10, 1), (4, 2)] [[], [0], [0, 1]] (rel [is (.pointer (some ⟨bz, oz + k, none⟩)),
   is (.int .i64 ((elT xs k))),
   is (.int .i64 ((elT xs k)))])
   ⟨is_k, is_k, is_k, trivial⟩
   ⟨fun f s W m p q r u j => by have hab := (hX_ (by omega)).1; have li_ := Nat.not_le.2 (show k < n by omega); have li2_ : (k : Int) < (n : Int) := (by omega); exact opv rfl rfl (by simp [go_sem, j.e 5 k2_5, j.e 7 k2_7, hab, li_, li2_]) rfl,
  fun f s W m p q r u j => by have x := below_trans fB2 m; have cu_ := (hX_ (by omega)).2 W (by first | exact fB_ | exact x | exact below_trans hB0 (by assumption)) k (by omega); exact opv rfl rfl (by simp [go_sem, j.e 9 (p 0 rfl), cu_]) rfl,
  fun f s W m p q r u j => opv rfl rfl (by simp [go_sem, j.e 10 (p 1 rfl)]) rfl, trivial⟩ ?_
  intro f3 s3 W3 hB3 g3 hg3
  have fB3 := hB3.f fB2
  have z3 := hB3.below.size
  have q5' := (StabX.below hJs q4' hB3.below)
  refine hK6 _ _ ?_
  have k3_0 := kt hg3 0 k2_0
  have k3_5 := kt hg3 5 k2_5
  have k3_6 := kt hg3 6 k2_6
  have k3_7 := kt hg3 7 k2_7
  have k3_4 := kt hg3 4 (hB3.is 2)
  refine wp_seq_k fun K7 hK7 => ?_
  refine (wpIn_wide (n := 9)).1 (wpIn_region ?_)
  show wpOpsIn _ _ _ _ _ [0, 1, 2, 3] _ _
  refine inP_value (o := _) rfl rfl rfl (v := .func (.yield l) #[] #[]) (by simp [go_sem, frv 16 k3_0]) ?_
  generalize hg4 : upd g3 11 (.func (.yield l) #[] #[]) = g4
  have k4_0 := ku hg4 0 k3_0
  have k4_5 := ku hg4 5 k3_5
  have k4_6 := ku hg4 6 k3_6
  have k4_7 := ku hg4 7 k3_7
  have k4_4 := ku hg4 4 k3_4
  have k4_11 := kt hg4 11 (upd_same _ _ _)
  refine inP_value (o := _) rfl rfl rfl (v := .int .i64 ((elT xs k))) (by simp [go_sem, frv 16 k4_4]) ?_
  generalize hg5 : upd g4 12 (.int .i64 ((elT xs k))) = g5
  have k5_0 := ku hg5 0 k4_0
  have k5_5 := ku hg5 5 k4_5
  have k5_6 := ku hg5 6 k4_6
  have k5_7 := ku hg5 7 k4_7
  have k5_11 := ku hg5 11 k4_11
  have k5_12 := kt hg5 12 (upd_same _ _ _)
  refine inP_round (o := _) (d := 13) rfl rfl rfl (l := l) (args := #[.int .i64 ((elT xs k))]) (by simp [go_sem, frv 16 k5_11, frv 16 k5_12]) (yieldAt_fuel (hY k _ _ hkn q5' (by omega))) ?_ (fun _ h => nomatch h.1) (fun _ _ h => nomatch h.1)
  rintro v_ W6 ⟨rv6, G6, jj6, kx6, gg6⟩
  obtain rfl := Ending.returned.inj rv6
  have kz6 := kx6.size
  have hge6 := hJG _ _ _ q5'
  have fB6 : Below w.heap.size w W6 := Below.trans fB3 (kx6.below (fun b hb => (hge6 b hb).1) (Below.size fB3))
  generalize hg6 : upd g5 13 (.bool true) = g6
  have k6_0 := ku hg6 0 k5_0
  have k6_5 := ku hg6 5 k5_5
  have k6_6 := ku hg6 6 k5_6
  have k6_7 := ku hg6 7 k5_7
  have k6_13 := kt hg6 13 (upd_same _ _ _)
  refine inP_value (o := _) rfl rfl rfl (v := .bool false) (by simp [go_sem, frv 16 k6_13]) ?_
  generalize hg7 : upd g6 14 (.bool false) = g7
  have k7_0 := ku hg7 0 k6_0
  have k7_5 := ku hg7 5 k6_5
  have k7_6 := ku hg7 6 k6_6
  have k7_7 := ku hg7 7 k6_7
  have k7_14 := kt hg7 14 (upd_same _ _ _)
  refine hK7 _ _ ?_
  refine wp_cond_false ((fr_eval rfl).trans k7_14) ?_
  refine wp_skip ?_
  refine inBlock_normal ?_
  refine hK5 _ _ ?_
  refine region_dk 2 [(15, 0), (7, 1)] [[], [0]] (rel [is (.int .i64 ((k : Int) + 1)),
   is (.int .i64 ((k : Int) + 1))])
   ⟨is_k, is_k, trivial⟩
   ⟨fun f s W m p q r u j => opv rfl rfl (by simp [go_sem, j.e 7 ((r 1 7 rfl rfl).trans k7_7), IntWalk.i64_in ((k : Int) + 1) (by omega)]) rfl,
  fun f s W m p q r u j => opv rfl rfl (by simp [go_sem, j.e 15 (p 0 rfl)]) rfl, trivial⟩ ?_
  intro f8 s8 W8 hB8 g8 hg8
  have fB8 := hB8.f fB6
  have z8 := hB8.below.size
  have q6' := (StabX.below hJs jj6 hB8.below)
  refine wpOps_end ?_
  have k8_0 := kt hg8 0 k7_0
  have k8_5 := kt hg8 5 k7_5
  have k8_6 := kt hg8 6 k7_6
  have k8_7 := kt hg8 7 (hB8.is 1)
  refine then_normal ?_
  exact ⟨_, by omega, g8, rfl, k + 1, G6, rfl, k8_0, k8_5, k8_6, k8_7.trans (by go_num), fB8, (by omega), q6', (by omega)⟩
 ·
  have hc4' := hc4; try simp only [ba] at hc4'
  have hkn : k = n := by omega
  refine wp_exit ?_
  refine then_exit ?_
  refine then_exit ?_
  refine inBlock_at ?_
  refine leave_marks (v := .tuple #[]) (Ds := []) (.inl rfl) rfl rfl ⟨.nil, fun _ h => nomatch h⟩ (fun W' => by simp [results, Try.results99, go_sem]) fun W' hk => ⟨⟨_, rfl⟩, G, ?_⟩
  have hJe := hJs _ _ _ _ q4' (hk.more fun b hb => (nomatch hb))
  rw [hkn] at hJe
  exact hJe
set_option maxRecDepth 100000 in
set_option maxHeartbeats 8000000 in
theorem after_it (up dn lo hi : Int) (ds : Nat → Ds) (bo oo n c : Nat) {w : World} (hO : DsR w bo oo n ds) (ho : ∀ i, i < n → DsIn (ds i)) (gn : n ≤ 10) (gu : 0 ≤ up ∧ up ≤ 50) (gd : 0 ≤ dn ∧ dn ≤ 50) (hm : MoIn lo hi) (b1 b2 b3 l : Nat) (G1 : Nat → Prop) (J : Nat → (Nat → Prop) → World → Prop) (v1 : World) (hB0 : Below w.heap.size w v1) (hb1 : v1.heap[b1]? = some (.cells #[.slice (some ⟨bo, oo, none⟩) n c] 52 (0, 0))) (hb2 : v1.heap[b2]? = some (.cells #[.int .i64 lo, .int .i64 hi] 103 (0, 0))) (hb3 : v1.heap[b3]? = some (.cells #[.int .i64 up, .int .i64 dn] 41 (0, 0))) (lb2 : w.heap.size ≤ b2) (hb32 : b3 ≠ b2) (hJs : StabX (fun b => b = b2) J v1.heap.size) (hJG : ∀ i G W, J i G W → ∀ b, G b → w.heap.size ≤ b ∧ b < W.heap.size) (hG1 : ∀ b, G1 b → b ≠ b2 ∧ b ≠ b3) (hY : ∀ i G W, i < n → J i G W → v1.heap.size ≤ W.heap.size → YieldAt Fence.wide 8 Try.prog l #[.agg #[.int .i64 (ds i).lo, .int .i64 (ds i).hi, .int .i64 (ds i).hr], .agg #[.int .i64 (moF up dn lo hi ds (i + 1)).1, .int .i64 (moF up dn lo hi ds (i + 1)).2]] W (YldG J i G W)) (hJ0 : J 0 G1 v1) :
  CallsIn Fence.wide 9 Try.prog 55 #[.func (.yield l) #[] #[], .pointer (some ⟨b1, 0, none⟩), .pointer (some ⟨b2, 0, none⟩), .pointer (some ⟨b3, 0, none⟩)] v1 fun e W' => (∃ v, e = .returned v) ∧ ∃ G, J n G W' := by
 refine callsIn_wide.2 (calls_frM (n := 9) Try.func55 Try.ntmps55 rfl rfl fun g hg => ?_)
 have k0 : g 0 = .func (.yield l) #[] #[] := hg 0
 have k1 : g 1 = .pointer (some ⟨b1, 0, none⟩) := hg 1
 have k2 : g 2 = .pointer (some ⟨b2, 0, none⟩) := hg 2
 have k3 : g 3 = .pointer (some ⟨b3, 0, none⟩) := hg 3
 clear hg
 have lt_b1 := lt_of_blk hb1
 have lt_b2 := lt_of_blk hb2
 have lt_b3 := lt_of_blk hb3
 refine wp_seq_k fun K1 hK1 => ?_
 refine region_dk 3 [(7, 0), (8, 1), (9, 2)] [[], [0], []] (rel [is (.slice (some ⟨bo, oo, none⟩) (n) (c)),
   is (.int .i64 ((n : Int))),
   is (.int .i64 0)])
  ⟨is_k, is_k, is_k, trivial⟩
  ⟨fun f s W j p q r u a => opv rfl rfl (by simp [go_sem, a.e 1 k1, cb hb1 j 0]) rfl,
  fun f s W j p q r u a => opv rfl rfl (by simp [go_sem, a.e 7 (p 0 rfl)]) rfl,
  fun f s W j p q r u a => opv rfl rfl (by simp [go_sem]) rfl, trivial⟩ ?_
 intro f1 s1 W1 hB1 g1 hg1
 have fB1 := hB1.f hB0
 have z1 := hB1.below.size
 have b1_0 := hB1.b hb1
 have b1_1 := hB1.b hb2
 have b1_2 := hB1.b hb3
 have q7' := (StabX.below hJs hJ0 hB1.below)
 refine hK1 _ _ ?_
 have k1_0 := kt hg1 0 k0
 have k1_2 := kt hg1 2 k2
 have k1_3 := kt hg1 3 k3
 have k1_7 := kt hg1 7 (hB1.is 0)
 have k1_8 := kt hg1 8 (hB1.is 1)
 have k1_9 := kt hg1 9 (hB1.is 2)
 refine wp_block ?_
 refine wp_loop_n (fun m_ a_ W_ => ∃ g_ : Nat → Value, a_ = fr 26 g_ ∧ (∃ k : Nat, ∃ G : Nat → Prop, m_ = n - k ∧ g_ 0 = .func (.yield l) #[] #[] ∧ g_ 2 = .pointer (some ⟨b2, 0, none⟩) ∧ g_ 3 = .pointer (some ⟨b3, 0, none⟩) ∧ g_ 7 = .slice (some ⟨bo, oo, none⟩) (n) (c) ∧ g_ 8 = .int .i64 ((n : Int)) ∧ g_ 9 = .int .i64 ((k : Int)) ∧ Below w.heap.size w W_ ∧ W1.heap.size ≤ W_.heap.size ∧ W_.heap[b3]? = some (.cells #[.int .i64 up, .int .i64 dn] 41 (0, 0)) ∧ W_.heap[b2]? = some (.cells #[.int .i64 ((moF up dn lo hi ds k).1), .int .i64 ((moF up dn lo hi ds k).2)] 103 (0, 0)) ∧ J k G W_ ∧ (k ≤ n) ∧ (∀ b, G b → b ≠ b2 ∧ b ≠ b3))) ⟨_, g1, rfl, 0, G1, rfl, k1_0, k1_2, k1_3, k1_7, k1_8, k1_9.trans (by rfl), fB1, Nat.le_refl _, b1_2, b1_1, q7', (by omega), hG1⟩ ?_
 rintro _ _ W_8 ⟨g_8, rfl, k, G, rfl, k_8_0, k_8_2, k_8_3, k_8_7, k_8_8, k_8_9, fB_8, z_8, b_8_0, m_8_0, q9', lk0, lk1⟩
 refine wp_seq_k fun K2 hK2 => ?_
 refine region_dk 1 [(10, 0)] [[]] (rel [is (.bool (decide ((k : Int) < (n : Int))))])
  ⟨is_k, trivial⟩
  ⟨fun f s W j p q r u a => opv rfl rfl (by simp [go_sem, a.e 9 k_8_9, a.e 8 k_8_8]) rfl, trivial⟩ ?_
 intro f2 s2 W2 hB2 g2 hg2
 have fB2 := hB2.f fB_8
 have z2 := hB2.below.size
 have b2_0 := hB2.b b_8_0
 have b2_1 := hB2.b m_8_0
 have q10' := (StabX.below hJs q9' hB2.below)
 refine hK2 _ _ ?_
 have k2_0 := kt hg2 0 k_8_0
 have k2_2 := kt hg2 2 k_8_2
 have k2_3 := kt hg2 3 k_8_3
 have k2_7 := kt hg2 7 k_8_7
 have k2_8 := kt hg2 8 k_8_8
 have k2_9 := kt hg2 9 k_8_9
 have k2_10 := kt hg2 10 (hB2.is 0)
 refine wp_seq_k fun K3 hK3 => ?_
 refine wp_cond_split (t := decide ((k : Int) < (n : Int))) ((fr_eval rfl).trans k2_10) (fun hc4 => ?_) (fun hc4 => ?_)
 ·
  have hc4' := hc4; try simp only [ba] at hc4'
  have hkn : k < n := by omega
  have hmo_ := moF_in gu gd hm ho k (by omega)
  have hmo2_ := hmo_.h
  have hds_ := ho k hkn
  have hds1_ := hds_.m
  have hds2_ := hds_.h
  have hGlt_ := fun b hb => (hJG _ _ _ q10' b hb).2
  refine wp_skip ?_
  refine hK3 _ _ ?_
  refine wp_seq_k fun K5 hK5 => ?_
  refine wp_block ?_
  refine wp_seq_k fun K6 hK6 => ?_
  refine region_dk 3 [(11, 0), (12, 1), (6, 2)] [[], [0], [], [0, 1, 2]] (rel [is (.pointer (some ⟨bo, oo + k * 3, none⟩)),
   is (.agg #[.int .i64 ((ds k).lo), .int .i64 ((ds k).hi), .int .i64 ((ds k).hr)]),
   bx 2 #[.int .i64 0, .int .i64 0, .int .i64 0] 51])
   ⟨is_k, is_k, bx_k, trivial⟩
   ⟨fun f s W j p q r u a => by have li_ := Nat.not_le.2 (show k < n by omega); have li2_ : (k : Int) < (n : Int) := (by omega); exact opv rfl rfl (by simp [go_sem, a.e 7 k2_7, a.e 9 k2_9, li_, li2_]) rfl,
  fun f s W j p q r u a => by have x := below_trans fB2 j; have cu_ := (hO.below x).2 k (by omega); have cu0_ : W.cell? ⟨bo, oo + k * 3, none⟩ = some (.int .i64 (ds k).lo) := cu_.1; have cu1_ : W.cell? ⟨bo, oo + k * 3 + 1, none⟩ = some (.int .i64 (ds k).hi) := cu_.2.1; have cu2_ : W.cell? ⟨bo, oo + k * 3 + 2, none⟩ = some (.int .i64 (ds k).hr) := cu_.2.2; exact opv rfl rfl (by simp [go_sem, a.e 11 (p 0 rfl), cu0_, cu1_, cu2_]) rfl,
  fun f s W j p q r u a => opb rfl rfl (by simp [go_sem]), trivial⟩ ?_
  intro f3 s3 W3 hB3 g3 hg3
  have fB3 := hB3.f fB2
  have z3 := hB3.below.size
  have b3_0 := hB3.b b2_0
  have b3_1 := hB3.b b2_1
  have q11' := (StabX.below hJs q10' hB3.below)
  obtain ⟨r3_2, br3_2⟩ := hB3.is 2
  have lr3_2 := hB3.lr 2 br3_2
  have k3_0 := kt hg3 0 k2_0
  have k3_2 := kt hg3 2 k2_2
  have k3_3 := kt hg3 3 k2_3
  have k3_7 := kt hg3 7 k2_7
  have k3_8 := kt hg3 8 k2_8
  have k3_9 := kt hg3 9 k2_9
  have k3_12 := kt hg3 12 (hB3.is 1)
  have k3_6 := kt hg3 6 r3_2
  obtain ⟨W4, hW4⟩ : ∃ W', W' = W3.setRow (s3 2) #[.int .i64 ((ds k).lo), .int .i64 ((ds k).hi), .int .i64 ((ds k).hr)] := ⟨_, rfl⟩
  refine tail_skip (o := _) rfl ⟨rfl, rfl⟩ (run_seg hW4 (fr_ev k3_6) (fr_ev k3_12) br3_2 rfl rfl rfl rfl) ?_
  obtain ⟨fB4, nb4, ot4, z4⟩ := seg_facts hW4 fB3 br3_2 (by omega)
  have q12' := (hJs _ _ _ _ q11' (keepX_P (keepX_row hW4) (by first | exact .inl rfl | exact .inr ⟨by omega, fun hg_ => by have := hGlt_ _ hg_; omega⟩)))
  clear hW4
  have b4_0 := ot4 _ _ (by omega) b3_0
  have b4_1 := ot4 _ _ (by omega) b3_1
  refine wpOps_end ?_
  refine hK6 _ _ ?_
  refine wp_seq_k fun K7 hK7 => ?_
  refine region_dk 7 [(13, 0), (14, 1), (15, 2), (16, 3), (17, 4), (18, 5), (19, 6)] [[], [], [], [2], [], [4], [0, 1, 2, 3, 4, 5], [0, 1, 2, 3, 4, 5, 6]] (rel [is (.agg #[.int .i64 ((moF up dn lo hi ds k).1), .int .i64 ((moF up dn lo hi ds k).2)]),
   is (.agg #[.int .i64 up, .int .i64 dn]),
   is (.pointer (some ⟨(s3 2), 0, none⟩)),
   is (.agg #[.int .i64 ((ds k).lo), .int .i64 ((ds k).hi)]),
   is (.pointer (some ⟨(s3 2), 2, none⟩)),
   is (.int .i64 ((ds k).hr)),
   is (.agg #[.int .i64 ((towF up dn (moF up dn lo hi ds k).1 (ds k).lo (ds k).hr)), .int .i64 ((towF up dn (moF up dn lo hi ds k).2 (ds k).hi (ds k).hr))])])
   ⟨is_k, is_k, is_k, is_k, is_k, is_k, is_k, trivial⟩
   ⟨fun f s W j p q r u a => opv rfl rfl (by simp [go_sem, a.e 2 k3_2, cb b4_1 j 0, cb b4_1 j 1]) rfl,
  fun f s W j p q r u a => opv rfl rfl (by simp [go_sem, a.e 3 k3_3, cb b4_0 j 0, cb b4_0 j 1]) rfl,
  fun f s W j p q r u a => opv rfl rfl (by simp [go_sem, a.e 6 k3_6]) rfl,
  fun f s W j p q r u a => opv rfl rfl (by simp [go_sem, a.e 15 (p 2 rfl), cb nb4 j 0, cb nb4 j 1]) rfl,
  fun f s W j p q r u a => opv rfl rfl (by simp [go_sem, a.e 6 k3_6]) rfl,
  fun f s W j p q r u a => opv rfl rfl (by simp [go_sem, a.e 17 (p 4 rfl), cb nb4 j 2]) rfl,
  fun f s W j p q r u a => opc (args := #[.agg #[.int .i64 ((moF up dn lo hi ds k).1), .int .i64 ((moF up dn lo hi ds k).2)], .agg #[.int .i64 up, .int .i64 dn], .agg #[.int .i64 ((ds k).lo), .int .i64 ((ds k).hi)], .int .i64 ((ds k).hr)]) rfl rfl (by simp [go_sem, a.e 13 (p 0 rfl), a.e 14 (p 1 rfl), a.e 16 (p 3 rfl), a.e 18 (p 5 rfl)]) (hours_any up dn ((moF up dn lo hi ds k).1) ((moF up dn lo hi ds k).2) ((ds k).lo) ((ds k).hi) ((ds k).hr) W gu gd hmo_ ⟨by omega⟩ (by omega)), trivial⟩ ?_
  intro f5 s5 W5 hB5 g5 hg5
  have fB5 := hB5.f fB4
  have z5 := hB5.below.size
  have b5_0 := hB5.b b4_0
  have b5_1 := hB5.b b4_1
  have b5_2 := hB5.b nb4
  have q13' := (StabX.below hJs q12' hB5.below)
  have k5_0 := kt hg5 0 k3_0
  have k5_2 := kt hg5 2 k3_2
  have k5_3 := kt hg5 3 k3_3
  have k5_7 := kt hg5 7 k3_7
  have k5_8 := kt hg5 8 k3_8
  have k5_9 := kt hg5 9 k3_9
  have k5_6 := kt hg5 6 k3_6
  have k5_19 := kt hg5 19 (hB5.is 6)
  obtain ⟨W6, hW6⟩ : ∃ W', W' = W5.setRow b2 #[.int .i64 ((towF up dn (moF up dn lo hi ds k).1 (ds k).lo (ds k).hr)), .int .i64 ((towF up dn (moF up dn lo hi ds k).2 (ds k).hi (ds k).hr))] := ⟨_, rfl⟩
  refine tail_skip (o := _) rfl ⟨rfl, rfl⟩ (run_seg hW6 (fr_ev k5_2) (fr_ev k5_19) b5_1 rfl rfl rfl rfl) ?_
  obtain ⟨fB6, nb6, ot6, z6⟩ := seg_facts hW6 fB5 b5_1 (by omega)
  have q14' := (hJs _ _ _ _ q13' (keepX_P (keepX_row hW6) (by first | exact .inl rfl | exact .inr ⟨by omega, fun hg_ => by have := hGlt_ _ hg_; omega⟩)))
  clear hW6
  have b6_0 := ot6 _ _ (by omega) b5_0
  have b6_2 := ot6 _ _ (by omega) b5_2
  refine wpOps_end ?_
  refine hK7 _ _ ?_
  refine wp_seq_k fun K8 hK8 => ?_
  refine (wpIn_wide (n := 9)).1 (wpIn_region ?_)
  show wpOpsIn _ _ _ _ _ [0, 1, 2, 3, 4] _ _
  refine inP_value (o := _) rfl rfl rfl (v := .func (.yield l) #[] #[]) (by simp [go_sem, frv 26 k5_0]) ?_
  generalize hg7 : upd g5 20 (.func (.yield l) #[] #[]) = g7
  have k7_0 := ku hg7 0 k5_0
  have k7_2 := ku hg7 2 k5_2
  have k7_3 := ku hg7 3 k5_3
  have k7_7 := ku hg7 7 k5_7
  have k7_8 := ku hg7 8 k5_8
  have k7_9 := ku hg7 9 k5_9
  have k7_6 := ku hg7 6 k5_6
  have k7_20 := kt hg7 20 (upd_same _ _ _)
  refine inP_value (o := _) rfl rfl rfl (v := .agg #[.int .i64 ((ds k).lo), .int .i64 ((ds k).hi), .int .i64 ((ds k).hr)]) (by simp [go_sem, frv 26 k7_6, cl b6_2 0, cl b6_2 1, cl b6_2 2]) ?_
  generalize hg8 : upd g7 21 (.agg #[.int .i64 ((ds k).lo), .int .i64 ((ds k).hi), .int .i64 ((ds k).hr)]) = g8
  have k8_0 := ku hg8 0 k7_0
  have k8_2 := ku hg8 2 k7_2
  have k8_3 := ku hg8 3 k7_3
  have k8_7 := ku hg8 7 k7_7
  have k8_8 := ku hg8 8 k7_8
  have k8_9 := ku hg8 9 k7_9
  have k8_20 := ku hg8 20 k7_20
  have k8_21 := kt hg8 21 (upd_same _ _ _)
  refine inP_value (o := _) rfl rfl rfl (v := .agg #[.int .i64 ((towF up dn (moF up dn lo hi ds k).1 (ds k).lo (ds k).hr)), .int .i64 ((towF up dn (moF up dn lo hi ds k).2 (ds k).hi (ds k).hr))]) (by simp [go_sem, frv 26 k8_2, cl nb6 0, cl nb6 1]) ?_
  generalize hg9 : upd g8 22 (.agg #[.int .i64 ((towF up dn (moF up dn lo hi ds k).1 (ds k).lo (ds k).hr)), .int .i64 ((towF up dn (moF up dn lo hi ds k).2 (ds k).hi (ds k).hr))]) = g9
  have k9_0 := ku hg9 0 k8_0
  have k9_2 := ku hg9 2 k8_2
  have k9_3 := ku hg9 3 k8_3
  have k9_7 := ku hg9 7 k8_7
  have k9_8 := ku hg9 8 k8_8
  have k9_9 := ku hg9 9 k8_9
  have k9_20 := ku hg9 20 k8_20
  have k9_21 := ku hg9 21 k8_21
  have k9_22 := kt hg9 22 (upd_same _ _ _)
  refine inP_round (o := _) (d := 23) rfl rfl rfl (l := l) (args := #[.agg #[.int .i64 ((ds k).lo), .int .i64 ((ds k).hi), .int .i64 ((ds k).hr)], .agg #[.int .i64 ((towF up dn (moF up dn lo hi ds k).1 (ds k).lo (ds k).hr)), .int .i64 ((towF up dn (moF up dn lo hi ds k).2 (ds k).hi (ds k).hr))]]) (by simp [go_sem, frv 26 k9_20, frv 26 k9_21, frv 26 k9_22]) (yieldAt_fuel (hY k _ _ hkn q14' (by omega))) ?_ (fun _ h => nomatch h.1) (fun _ _ h => nomatch h.1)
  rintro v_ W10 ⟨rv10, G10, jj10, kx10, gg10⟩
  obtain rfl := Ending.returned.inj rv10
  have kz10 := kx10.size
  have hge10 := hJG _ _ _ q14'
  have fB10 : Below w.heap.size w W10 := Below.trans fB6 (kx10.below (fun b hb => (hge10 b hb).1) (Below.size fB6))
  have by10_b3 := kx10.block _ _ (fun e => (lk1 _ e).2 rfl) b6_0
  have by10_b2 := kx10.block _ _ (fun e => (lk1 _ e).1 rfl) nb6
  generalize hg10 : upd g9 23 (.bool true) = g10
  have k10_0 := ku hg10 0 k9_0
  have k10_2 := ku hg10 2 k9_2
  have k10_3 := ku hg10 3 k9_3
  have k10_7 := ku hg10 7 k9_7
  have k10_8 := ku hg10 8 k9_8
  have k10_9 := ku hg10 9 k9_9
  have k10_23 := kt hg10 23 (upd_same _ _ _)
  refine inP_value (o := _) rfl rfl rfl (v := .bool false) (by simp [go_sem, frv 26 k10_23]) ?_
  generalize hg11 : upd g10 24 (.bool false) = g11
  have k11_0 := ku hg11 0 k10_0
  have k11_2 := ku hg11 2 k10_2
  have k11_3 := ku hg11 3 k10_3
  have k11_7 := ku hg11 7 k10_7
  have k11_8 := ku hg11 8 k10_8
  have k11_9 := ku hg11 9 k10_9
  have k11_24 := kt hg11 24 (upd_same _ _ _)
  refine hK8 _ _ ?_
  refine wp_cond_false ((fr_eval rfl).trans k11_24) ?_
  refine wp_skip ?_
  refine inBlock_normal ?_
  refine hK5 _ _ ?_
  refine region_dk 2 [(25, 0), (9, 1)] [[], [0]] (rel [is (.int .i64 ((k : Int) + 1)),
   is (.int .i64 ((k : Int) + 1))])
   ⟨is_k, is_k, trivial⟩
   ⟨fun f s W j p q r u a => opv rfl rfl (by simp [go_sem, a.e 9 ((r 1 9 rfl rfl).trans k11_9), IntWalk.i64_in ((k : Int) + 1) (by omega)]) rfl,
  fun f s W j p q r u a => opv rfl rfl (by simp [go_sem, a.e 25 (p 0 rfl)]) rfl, trivial⟩ ?_
  intro f12 s12 W12 hB12 g12 hg12
  have fB12 := hB12.f fB10
  have z12 := hB12.below.size
  have b12_0 := hB12.b by10_b3
  have b12_1 := hB12.b by10_b2
  have q15' := (StabX.below hJs jj10 hB12.below)
  refine wpOps_end ?_
  have k12_0 := kt hg12 0 k11_0
  have k12_2 := kt hg12 2 k11_2
  have k12_3 := kt hg12 3 k11_3
  have k12_7 := kt hg12 7 k11_7
  have k12_8 := kt hg12 8 k11_8
  have k12_9 := kt hg12 9 (hB12.is 1)
  refine then_normal ?_
  exact ⟨_, by omega, g12, rfl, k + 1, G10, rfl, k12_0, k12_2, k12_3, k12_7, k12_8, k12_9.trans (by go_num), fB12, (by omega), b12_0, b12_1, q15', (by omega), (fun b hb => (gg10 b hb).elim (lk1 b) fun h => ⟨by omega, by omega⟩)⟩
 ·
  have hc4' := hc4; try simp only [ba] at hc4'
  have hkn : k = n := by omega
  refine wp_exit ?_
  refine then_exit ?_
  refine then_exit ?_
  refine inBlock_at ?_
  refine leave_marks (v := .tuple #[]) (Ds := []) (.inl rfl) rfl rfl ⟨.nil, fun _ h => nomatch h⟩ (fun W' => by simp [results, Try.results55, go_sem]) fun W' hk => ⟨⟨_, rfl⟩, G, ?_⟩
  have hJe := hJs _ _ _ _ q10' (hk.more fun b hb => (nomatch hb))
  rw [hkn] at hJe
  exact hJe
end Go.Proofs.Ytcgccflcjejlhaa
namespace Go.Proofs.Ytcgccflcjejlhaa
open Go.RowKit
end Go.Proofs.Ytcgccflcjejlhaa
namespace Go.Proofs.Ytcgccflcjejlhaa
open Go.RowKit
end Go.Proofs.Ytcgccflcjejlhaa
namespace Go.Proofs.Ytcgccflcjejlhaa
open Go.RowKit
/-- The iterator over the patterns that begin with some webs: a function value with two boxes. -/
def PtV (B : Nat) (p : Tp) (bo oo no co : Nat) (ax : Option Addr) (nx cx : Nat) (v : Value) (W : World) : Prop := ∃ bw bm, v = .func (.func 141) #[] #[.pointer (some ⟨bw, 0, none⟩), .pointer (some ⟨bm, 0, none⟩)] ∧ W.heap[bw]? = some (.cells #[.slice ax nx cx] 25 (0, 0)) ∧ W.heap[bm]? = some (.cells #[.int .i64 p.wide, .int .i64 p.tlo, .int .i64 p.thi, .int .i64 p.webs, .slice (some ⟨bo, oo, none⟩) (no) (co)] 110 (0, 0)) ∧ B ≤ bw ∧ B ≤ bm
theorem PtV.below {B : Nat} {p : Tp} {bo oo no co : Nat} {ax : Option Addr} {nx cx : Nat} {v : Value} {W W' : World} (h : PtV B p bo oo no co ax nx cx v W) (hb : Below W.heap.size W W') : PtV B p bo oo no co ax nx cx v W' := by
  obtain ⟨bw, bm, e, h1, h2, h3⟩ := h; exact ⟨bw, bm, e, blk_below h1 hb, blk_below h2 hb, h3⟩
end Go.Proofs.Ytcgccflcjejlhaa
namespace Go.Proofs.Ytcgccflcjejlhaa
open Go.RowKit
end Go.Proofs.Ytcgccflcjejlhaa
namespace Go.Proofs.Ytcgccflcjejlhaa
open Go.RowKit
end Go.Proofs.Ytcgccflcjejlhaa
namespace Go.Proofs.Ytcgccflcjejlhaa
open Go.RowKit
/-- The webs of pattern number i. -/
def webL (L : List (List Int)) (i : Nat) : List Int := L.getD i []
/-- The cells of a plan: for each set-up the number of its pattern and its run. -/
def plC (L : List (List Int)) (ad : Nat → Option Addr) (cp : Nat → Nat) : List (Nat × Int) → List Value
  | [] => []
  | (k, r) :: t => .slice (ad k) (webL L k).length (cp k) :: .int .i64 r :: plC L ad cp t
/-- A row of n set-ups with these cells, not in block bs. -/
def RowA (W : World) (bs : Nat) (a : Option Addr) (n : Nat) (cs : List Value) : Prop := cs.length = n * 2 ∧ ((n = 0 ∧ a = none) ∨ ∃ b o, a = some ⟨b, o, none⟩ ∧ b ≠ bs ∧ b < W.heap.size ∧ ∀ j u, cs[j]? = some u → W.cell? ⟨b, o + j, none⟩ = some u)
theorem RowA.below {W W' : World} {bs n : Nat} {a : Option Addr} {cs : List Value} (h : RowA W bs a n cs) (hb : Below W.heap.size W W') : RowA W' bs a n cs := by
  obtain ⟨h0, h⟩ := h
  refine ⟨h0, h.imp id ?_⟩
  rintro ⟨b, o, e, hne, hlt, hc⟩
  exact ⟨b, o, e, hne, Nat.lt_of_lt_of_le hlt hb.size, fun j u hj => (hb.cell (p := ⟨b, o + j, none⟩) hlt).trans (hc j u hj)⟩
theorem RowA.keepX {W W' : World} {bs n : Nat} {a : Option Addr} {cs : List Value} (h : RowA W bs a n cs) (hk : KeepX bs W W') : RowA W' bs a n cs := by
  obtain ⟨h0, h⟩ := h
  refine ⟨h0, h.imp id ?_⟩
  rintro ⟨b, o, e, hne, hlt, hc⟩
  refine ⟨b, o, e, hne, Nat.lt_of_lt_of_le hlt hk.size, fun j u hj => ?_⟩
  have hb : W.heap[b]? = some W.heap[b] := Array.getElem?_eq_getElem hlt
  rw [← hc j u hj]
  exact World.cell?_of_block ((hk.block _ _ hne hb).trans hb.symm)
theorem Ii.keepX {W W' : World} {bs n c : Nat} {a : Option Addr} {xs : List Int} (h : Ii W a n c xs) (hk : KeepX bs W W') (hn : ∀ b o, a = some ⟨b, o, none⟩ → b ≠ bs) : Ii W' a n c xs := by
  obtain ⟨h0, h1, h2, h3, h4⟩ := h
  refine ⟨h0, h1, h2, h3, h4.imp id ?_⟩
  rintro ⟨b, o, e, hlt, hc⟩
  refine ⟨b, o, e, Nat.lt_of_lt_of_le hlt hk.size, fun i hi => ?_⟩
  have hb : W.heap[b]? = some W.heap[b] := Array.getElem?_eq_getElem hlt
  rw [← hc i hi]
  exact World.cell?_of_block ((hk.block _ _ (hn b o e) hb).trans hb.symm)
/-- A plan with one set-up more, in a row of its own. -/
def PlN (B bs n : Nat) (cs : List Value) (v : Value) (W : World) : Prop := ∃ g c, v = .slice (some ⟨g, 0, none⟩) n c ∧ n ≤ c ∧ RowA W bs (some ⟨g, 0, none⟩) n cs ∧ B ≤ g ∧ g < W.heap.size
theorem PlN.below {B bs n : Nat} {cs : List Value} {v : Value} {W W' : World} (h : PlN B bs n cs v W) (hb : Below W.heap.size W W') : PlN B bs n cs v W' := by
  obtain ⟨g, c, e, h1, h2, h3, h4⟩ := h; exact ⟨g, c, e, h1, h2.below hb, h3, Nat.lt_of_lt_of_le h4 hb.size⟩
/-- A best plan so far, with its waste, if there is one. -/
structure Se where
  best : List (Nat × Int)
  waste : Int
  found : Bool
/-- Patterns that can be gone through. -/
structure LOk (p : Tp) (os : Nat → To) (no : Nat) (L : List (List Int)) : Prop where
  len : L.length ≤ 1000
  n : ∀ i, i < L.length → (webL L i).length = no
  x : ∀ i, i < L.length → ∀ x ∈ webL L i, 0 ≤ x ∧ x ≤ 4
  t : ∀ i, i < L.length → 0 ≤ leftF p os (webL L i) no ∧ leftF p os (webL L i) no ≤ 3000
/-- What holds of the arguments of a try. -/
structure TryOk (no : Nat) (L : List (List Int)) (m : Nat) (pl : List (Nat × Int)) (fr : Nat) (wa : Int) (gs : List Int) : Prop where
  u : m + pl.length ≤ 3
  g : ∀ i, 0 ≤ elT gs i ∧ elT gs i ≤ 120 * (pl.length : Int)
  w : 0 ≤ wa ∧ wa ≤ 90000 * (pl.length : Int)
  fr : fr ≤ L.length
  l : gs.length = no
/-- A copy of a plan. -/
def PlC (bs n : Nat) (cs : List Value) (v : Value) (W : World) : Prop := ∃ a c, v = .slice a n c ∧ n ≤ c ∧ RowA W bs a n cs
theorem PlC.below {bs n : Nat} {cs : List Value} {v : Value} {W W' : World} (h : PlC bs n cs v W) (hb : Below W.heap.size W W') : PlC bs n cs v W' := by
  obtain ⟨a, c, e, h1, h2⟩ := h; exact ⟨a, c, e, h1, h2.below hb⟩
end Go.Proofs.Ytcgccflcjejlhaa
namespace Go.Proofs.Ytcgccflcjejlhaa
open Go.RowKit
end Go.Proofs.Ytcgccflcjejlhaa
namespace Go.Proofs.Ytcgccflcjejlhaa
open Go.RowKit
theorem foldl_one (X : Array Value) (q : Tmp) (b : Value) : ((#[q] : Array Tmp).zip #[b]).foldl (fun t (p, v) => t.setIfInBounds p v) X = X.setIfInBounds q b := by
  simp [Array.zip, ← Array.foldl_toList]
theorem Ii.keep {W W' : World} {S : Nat → Prop} {a : Option Addr} {n c : Nat} {xs : List Int} (h : Ii W a n c xs) (hk : KeepP S W W') (hn : ∀ b o, a = some ⟨b, o, none⟩ → xs = [] ∨ ¬ S b) : Ii W' a n c xs := by
  obtain ⟨h0, h1, h2, h3, h4⟩ := h
  refine ⟨h0, h1, h2, h3, ?_⟩
  rcases h4 with h4 | ⟨b, o, e, hlt, hc⟩
  · exact .inl h4
  · rcases hn b o e with hx | hx
    · exact .inl (by rw [hx]; rfl)
    · refine .inr ⟨b, o, e, Nat.lt_of_lt_of_le hlt hk.size, fun i hi => ?_⟩
      have hb : W.heap[b]? = some W.heap[b] := Array.getElem?_eq_getElem hlt
      rw [← hc i hi]
      exact World.cell?_of_block ((hk.block _ _ hx hb).trans hb.symm)
theorem Ii.blk {W : World} {a : Option Addr} {n c : Nat} {xs : List Int} (h : Ii W a n c xs) : ∀ b o, a = some ⟨b, o, none⟩ → xs = [] ∨ b < W.heap.size := by
  intro b o e
  by_cases h0 : 0 < xs.length
  · obtain ⟨b', o', e', hlt, -⟩ := h.at h0
    rw [e] at e'; cases e'; exact .inr hlt
  · exact .inl (List.eq_nil_of_length_eq_zero (by omega))
end Go.Proofs.Ytcgccflcjejlhaa
namespace Go.Proofs.Ytcgccflcjejlhaa
open Go.RowKit
/-- The iterator over the patterns that begin with webs of one's own. -/
def PtN (B : Nat) (p : Tp) (bo oo no co : Nat) (xs : List Int) (v : Value) (W : World) : Prop := ∃ g c bw bm, v = .func (.func 141) #[] #[.pointer (some ⟨bw, 0, none⟩), .pointer (some ⟨bm, 0, none⟩)] ∧ W.heap[bw]? = some (.cells #[.slice (some ⟨g, 0, none⟩) xs.length c] 25 (0, 0)) ∧ W.heap[bm]? = some (.cells #[.int .i64 p.wide, .int .i64 p.tlo, .int .i64 p.thi, .int .i64 p.webs, .slice (some ⟨bo, oo, none⟩) (no) (co)] 110 (0, 0)) ∧ Ii W (some ⟨g, 0, none⟩) xs.length c xs ∧ B ≤ bw ∧ B ≤ bm ∧ B ≤ g ∧ g < W.heap.size
theorem PtN.below {B : Nat} {p : Tp} {bo oo no co : Nat} {xs : List Int} {v : Value} {W W' : World} (h : PtN B p bo oo no co xs v W) (hb : Below W.heap.size W W') : PtN B p bo oo no co xs v W' := by
  obtain ⟨g, c, bw, bm, e, h1, h2, h3, h4, h5, h6, h7⟩ := h; exact ⟨g, c, bw, bm, e, blk_below h1 hb, blk_below h2 hb, h3.below hb (Nat.le_refl _), h4, h5, h6, Nat.lt_of_lt_of_le h7 hb.size⟩
end Go.Proofs.Ytcgccflcjejlhaa
