/- Part of the proof: what the claim leans on. -/
import Derived.Test.YtcgccflcjejlhaaDAY
import Derived.ProofKit
import Derived.OpenShut
import Derived.ChangeOld
import Derived.Below
import Derived.Test.YtcgccflcjejlhaaDAC
import Derived.Test.YtcgccflcjejlhaaDAB
import Derived.RangeFuncNested
import Derived.RangeFuncBound
import Derived.RangeFuncCalls
import Derived.RangeFuncLeaves
import Derived.Shelf.Abstract
import Derived.Shelf.RegionOpen
import Derived.WalkKit
import Derived.OwnWalkIn
import Derived.TacticsInMore
import Derived.LoopNIn
import Derived.LoopIn
import Derived.Test.YtcgccflcjejlhaaDAG
import Derived.Test.YtcgccflcjejlhaaDAQ
set_option linter.unusedSimpArgs false
set_option linter.unusedVariables false
namespace Go.Proofs.Ytcgccflcjejlhaa
open Go.RowKit
theorem towF_more {up from_ room a b : Int} (hu : 0 ≤ up) (hf : from_ < room) (h0 : 0 ≤ a) (hab : a ≤ b) : from_ ≤ towF up 3 from_ room a ∧ towF up 3 from_ room a ≤ towF up 3 from_ room b := by
  have h1 := Int.mul_nonneg hu h0
  have h2 := Int.mul_le_mul_of_nonneg_left hab hu
  unfold towF
  rw [if_pos hf, if_pos hf]
  omega
theorem damp_law {jv gv sv : Nat → Int} (gj : ∀ k, 0 ≤ jv k ∧ jv k ≤ 255) (gg : ∀ k, 0 ≤ gv k ∧ gv k ≤ 255) (gs : ∀ k, 0 ≤ sv k ∧ sv k ≤ 255) (w : World) :
    Calls Try.prog 3 #[.agg #[.int .u8 (jv 0), .int .u8 (jv 1), .int .u8 (jv 2), .int .u8 (jv 3), .int .u8 (jv 4), .int .u8 (jv 5), .int .u8 (jv 6), .int .u8 (jv 7), .int .u8 (jv 8), .int .u8 (jv 9), .int .u8 (jv 10), .int .u8 (jv 11), .int .u8 (jv 12), .int .u8 (jv 13), .int .u8 (jv 14), .int .u8 (jv 15), .int .u8 (jv 16), .int .u8 (jv 17), .int .u8 (jv 18), .int .u8 (jv 19)], .agg #[.int .u8 (gv 0), .int .u8 (gv 1), .int .u8 (gv 2), .int .u8 (gv 3)], .agg #[.int .u8 (sv 0), .int .u8 (sv 1), .int .u8 (sv 2), .int .u8 (sv 3)]] w (fun e w' => e = .returned (.bool true) ∧ Below w.heap.size w w') := by
  have hF := fun ns (h : ns ≤ 1) => flB gj gg gs h
  have hc := chK_bd (hF 0 (by decide))
  have hT : (stB sv).t ≤ 2000 := by have s1 := gs 1; have s2 := gs 2; show 3 * sv 1 + 1 + sv 2 ≤ 2000; omega
  have hj : ∀ i, FjIn (jsB jv i) 2000 := fun i => by
    have h0 := gj (i * 5); have h1 := gj (i * 5 + 1); have h2 := gj (i * 5 + 2); have h3 := gj (i * 5 + 3); have h4 := gj (i * 5 + 4)
    refine ⟨by show (jv (i * 5) % 2).toNat ≤ 1; omega, by show 0 ≤ jv (i * 5 + 1) ∧ jv (i * 5 + 1) ≤ 2000; omega, fun v hv => ?_⟩
    simp [jsB] at hv; omega
  have hb := fun ns => (runF_bd (freeF_in ns (stB sv) hT) hc (by decide : 3 ≤ 4) (by decide : (0 : Int) ≤ 2000) (by decide) hj (odB (gv 2)) 4).2.1
  have hle := (runF_le (freeF_more (stB sv)) (chK (chB gv)) 3 (jsB jv) (odB (gv 2)) 4).2
  have hsl : ∀ k, k < 4 → 0 ≤ elT ((runF (freeK 0 (stB sv)) (chK (chB gv)) 3 (jsB jv) (odB (gv 2)) 4).st k) 2 ∧ elT ((runF (freeK 0 (stB sv)) (chK (chB gv)) 3 (jsB jv) (odB (gv 2)) 4).st k) 2 ≤ elT ((runF (freeK 1 (stB sv)) (chK (chB gv)) 3 (jsB jv) (odB (gv 2)) 4).st k) 2 ∧ elT ((runF (freeK 1 (stB sv)) (chK (chB gv)) 3 (jsB jv) (odB (gv 2)) 4).st k) 2 ≤ 29745 := fun k _ => by
    have h0 := hb 0 k 2
    have h1 := hb 1 k 2
    have h2 := hle k 2 (by decide)
    refine ⟨h0.1, h2, Int.le_trans h1.2 (by decide)⟩
  refine damp_main jv gv sv (fun n k => elT ((runF (freeK n (stB sv)) (chK (chB gv)) 3 (jsB jv) (odB (gv 2)) 4).st k) 2) (fun n k => moF (1 + gv 3 % 5) 3 50 60 (dsW ((elT ((runF (freeK n (stB sv)) (chK (chB gv)) 3 (jsB jv) (odB (gv 2)) 4).st k) 2 + jv (k * 5 + 4)) / 60)) 1) w gj gg gs (fun _ _ => rfl) hsl (fun _ _ => rfl) fun k hk => ?_
  have h := hsl k hk
  have g5 := gj (k * 5 + 4)
  have g3 := gg 3
  obtain ⟨x0, hx0⟩ : ∃ x, elT ((runF (freeK 0 (stB sv)) (chK (chB gv)) 3 (jsB jv) (odB (gv 2)) 4).st k) 2 = x := ⟨_, rfl⟩
  obtain ⟨x1, hx1⟩ : ∃ x, elT ((runF (freeK 1 (stB sv)) (chK (chB gv)) 3 (jsB jv) (odB (gv 2)) 4).st k) 2 = x := ⟨_, rfl⟩
  show (moF _ 3 50 60 (dsW ((elT _ 2 + _) / 60)) 1).1 ≤ (moF _ 3 50 60 (dsW ((elT _ 2 + _) / 60)) 1).1 ∧ (moF _ 3 50 60 (dsW ((elT _ 2 + _) / 60)) 1).2 ≤ (moF _ 3 50 60 (dsW ((elT _ 2 + _) / 60)) 1).2 ∧ 50 ≤ (moF _ 3 50 60 (dsW ((elT _ 2 + _) / 60)) 1).1
  rw [hx0, hx1] at h
  rw [hx0, hx1]
  have a := towF_more (up := 1 + gv 3 % 5) (from_ := 50) (room := 200) (a := (x0 + jv (k * 5 + 4)) / 60) (b := (x1 + jv (k * 5 + 4)) / 60) (by omega) (by decide) (by omega) (by omega)
  have b := towF_more (up := 1 + gv 3 % 5) (from_ := 60) (room := 220) (a := (x0 + jv (k * 5 + 4)) / 60) (b := (x1 + jv (k * 5 + 4)) / 60) (by omega) (by decide) (by omega) (by omega)
  exact ⟨a.2, b.2, a.1⟩
end Go.Proofs.Ytcgccflcjejlhaa
namespace Go.Proofs.Ytcgccflcjejlhaa
open Go.ChangeShapes Go.WideShapes Go.ChangeAt Go.RowKit
end Go.Proofs.Ytcgccflcjejlhaa
namespace Go.Proofs.Ytcgccflcjejlhaa
open Go.ChangeShapes Go.WideShapes Go.ChangeAt Go.RowKit
theorem okWide_arr {P : Program} {w : World} {r : Reach} {base : Nat} {t e : TypeId} {n : Nat} {v : Value} (ht : P.underlying t = some (.array n e)) (h : Value.okWide P w r base t v) : ∃ cs, v = .agg cs ∧ cs.size = P.cellsOf t := by
  simp only [Value.okWide, ht] at h
  obtain ⟨cs, h1, h2, _⟩ := h
  exact ⟨cs, h1, h2⟩
end Go.Proofs.Ytcgccflcjejlhaa
namespace Go.Proofs.Ytcgccflcjejlhaa
open Go.RowKit
/-- A blank in bytes, with calipers, and how wide the spans of a wish are around it. -/
structure Sh where
  x0 : Int
  x1 : Int
  x2 : Int
  x3 : Int
  xh : Int
  y0 : Int
  y1 : Int
  y2 : Int
  y3 : Int
  xo : Bool
  ca : Int
  cb : Int
  v0 : Int
  v1 : Int
  v2 : Int
  v3 : Int
  v4 : Int
end Go.Proofs.Ytcgccflcjejlhaa
namespace Go.Proofs.Ytcgccflcjejlhaa
open Go.RowKit
end Go.Proofs.Ytcgccflcjejlhaa
namespace Go.Proofs.Ytcgccflcjejlhaa
open Go.RowKit
end Go.Proofs.Ytcgccflcjejlhaa
namespace Go.Proofs.Ytcgccflcjejlhaa
open Go.RowKit
end Go.Proofs.Ytcgccflcjejlhaa
namespace Go.Proofs.Ytcgccflcjejlhaa
open Go.RowKit
end Go.Proofs.Ytcgccflcjejlhaa
namespace Go.Proofs.Ytcgccflcjejlhaa
open Go.RowKit
def dn (n : Int) : Int := n / 1000
end Go.Proofs.Ytcgccflcjejlhaa
namespace Go.Proofs.Ytcgccflcjejlhaa
open Go.RowKit
end Go.Proofs.Ytcgccflcjejlhaa
namespace Go.Proofs.Ytcgccflcjejlhaa
open Go.RowKit
end Go.Proofs.Ytcgccflcjejlhaa
namespace Go.Proofs.Ytcgccflcjejlhaa
open Go.RowKit
end Go.Proofs.Ytcgccflcjejlhaa
namespace Go.Proofs.Ytcgccflcjejlhaa
open Go.RowKit Go.Shelf
attribute [local go_sem] Oper.semAt_some
end Go.Proofs.Ytcgccflcjejlhaa
namespace Go.Proofs.Ytcgccflcjejlhaa
open Go.RowKit
end Go.Proofs.Ytcgccflcjejlhaa
namespace Go.Proofs.Ytcgccflcjejlhaa
open Go.RowKit Go.Shelf
attribute [local go_sem] Oper.semAt_some
end Go.Proofs.Ytcgccflcjejlhaa
namespace Go.Proofs.Ytcgccflcjejlhaa
open Go.RowKit
end Go.Proofs.Ytcgccflcjejlhaa
namespace Go.Proofs.Ytcgccflcjejlhaa
open Go.RowKit
end Go.Proofs.Ytcgccflcjejlhaa
namespace Go.Proofs.Ytcgccflcjejlhaa
open Go.RowKit
end Go.Proofs.Ytcgccflcjejlhaa
namespace Go.Proofs.Ytcgccflcjejlhaa
open Go.RowKit
end Go.Proofs.Ytcgccflcjejlhaa
namespace Go.Proofs.Ytcgccflcjejlhaa
open Go.RowKit
end Go.Proofs.Ytcgccflcjejlhaa
namespace Go.Proofs.Ytcgccflcjejlhaa
open Go.RowKit
end Go.Proofs.Ytcgccflcjejlhaa
namespace Go.Proofs.Ytcgccflcjejlhaa
open Go.RowKit
end Go.Proofs.Ytcgccflcjejlhaa
namespace Go.Proofs.Ytcgccflcjejlhaa
open Go.RowKit
end Go.Proofs.Ytcgccflcjejlhaa
namespace Go.Proofs.Ytcgccflcjejlhaa
open Go.RowKit
end Go.Proofs.Ytcgccflcjejlhaa
namespace Go.Proofs.Ytcgccflcjejlhaa
end Go.Proofs.Ytcgccflcjejlhaa
namespace Go.Proofs.Ytcgccflcjejlhaa
open Go.RowKit
theorem Sl.other {W W' : World} {g o n c b : Nat} {cs : List Value} (h : Sl W (some ⟨g, o, none⟩) n c cs) (hot : ∀ k x, k ≠ b → W.heap[k]? = some x → W'.heap[k]? = some x) (hg : g < W.heap.size) (hne : g ≠ b) (hz : W.heap.size ≤ W'.heap.size) : Sl W' (some ⟨g, o, none⟩) n c cs := by
  obtain ⟨h2, h3, h4, h5⟩ := h
  refine ⟨h2, h3, h4, ?_⟩
  rcases h5 with h5 | ⟨b', off, e, hlt, hc⟩
  · exact .inl h5
  · cases e
    refine .inr ⟨g, o, rfl, by omega, fun i hi => ?_⟩
    have hx : W.heap[g]? = some (W.heap[g]'hg) := Array.getElem?_eq_getElem hg
    have := World.cell?_of_block (w := W) (w' := W') (a := ⟨g, o + i, none⟩) (by show W'.heap[g]? = W.heap[g]?; rw [hot g _ hne hx, hx])
    exact this.trans (hc i hi)
theorem Pp.other {W W' : World} {g o n c b : Nat} {xs : List (Int × Int)} (h : Pp W (some ⟨g, o, none⟩) n c xs) (hot : ∀ k x, k ≠ b → W.heap[k]? = some x → W'.heap[k]? = some x) (hg : g < W.heap.size) (hne : g ≠ b) (hz : W.heap.size ≤ W'.heap.size) : Pp W' (some ⟨g, o, none⟩) n c xs :=
  ⟨h.1, h.2.other hot hg hne hz⟩
def IsPpL (n : Nat) (xs : List (Int × Int)) (v : Value) (W : World) : Prop := ∃ a o c, v = .slice (some ⟨a, o, none⟩) n c ∧ Pp W (some ⟨a, o, none⟩) n c xs ∧ a < W.heap.size
theorem IsPpL.below {n : Nat} {xs : List (Int × Int)} {v : Value} {W W' : World} (h : IsPpL n xs v W) (hb : Below W.heap.size W W') : IsPpL n xs v W' := by
  obtain ⟨a, o, c, e, h, hl⟩ := h; exact ⟨a, o, c, e, h.below hb (Nat.le_refl _), Nat.lt_of_lt_of_le hl hb.size⟩
def IsIiL (n : Nat) (xs : List Int) (v : Value) (W : World) : Prop := ∃ a o c, v = .slice (some ⟨a, o, none⟩) n c ∧ Ii W (some ⟨a, o, none⟩) n c xs ∧ a < W.heap.size
theorem IsIiL.below {n : Nat} {xs : List Int} {v : Value} {W W' : World} (h : IsIiL n xs v W) (hb : Below W.heap.size W W') : IsIiL n xs v W' := by
  obtain ⟨a, o, c, e, h, hl⟩ := h; exact ⟨a, o, c, e, h.below hb (Nat.le_refl _), Nat.lt_of_lt_of_le hl hb.size⟩
end Go.Proofs.Ytcgccflcjejlhaa
namespace Go.Proofs.Ytcgccflcjejlhaa
end Go.Proofs.Ytcgccflcjejlhaa
namespace Go.Proofs.Ytcgccflcjejlhaa
open Go.RowKit
theorem Pp.lim {W : World} {a : Option Addr} {n c : Nat} {xs : List Sp} (h : Pp W a n c xs) : ∀ g o, a = some ⟨g, o, none⟩ → xs ≠ [] → g < W.heap.size := by
  intro g o e hne
  obtain ⟨b, off, e', hl, -⟩ := h.at (List.length_pos_iff.2 hne)
  rw [e] at e'
  cases e'
  exact hl
theorem Pp.at' {W : World} {a : Option Addr} {n c : Nat} {xs : List Sp} (h : Pp W a n c xs) (hne : 0 < xs.length) : ∃ b off, a = some ⟨b, off, none⟩ := by
  obtain ⟨b, off, e, -⟩ := h.at hne
  exact ⟨b, off, e⟩
end Go.Proofs.Ytcgccflcjejlhaa
namespace Go.Proofs.Ytcgccflcjejlhaa
open Go.RowKit
/-- A blank whose lists have so many numbers. -/
def BlkN (b : Bl) (n1 n2 n3 : Nat) (v : Value) (W : World) : Prop :=
  ∃ a1 c1 a2 c2 a3 c3, v = .agg #[.int .i64 b.tab, .slice a1 n1 c1, .int .i64 b.height, .slice a2 n2 c2, .slice a3 n3 c3, .int .i64 b.slot, .bool b.isOpen] ∧ Ii W a1 n1 c1 b.panels ∧ Ii W a2 n2 c2 b.top ∧ Ii W a3 n3 c3 b.bottom
theorem BlkN.below {b : Bl} {n1 n2 n3 : Nat} {v : Value} {W W' : World} (h : BlkN b n1 n2 n3 v W) (hb : Below W.heap.size W W') : BlkN b n1 n2 n3 v W' := by
  obtain ⟨a1, c1, a2, c2, a3, c3, e, h1, h2, h3⟩ := h
  exact ⟨a1, c1, a2, c2, a3, c3, e, h1.below hb (Nat.le_refl _), h2.below hb (Nat.le_refl _), h3.below hb (Nat.le_refl _)⟩
end Go.Proofs.Ytcgccflcjejlhaa
namespace Go.Proofs.Ytcgccflcjejlhaa
end Go.Proofs.Ytcgccflcjejlhaa
namespace Go.Proofs.Ytcgccflcjejlhaa
open Go.RowKit
end Go.Proofs.Ytcgccflcjejlhaa
namespace Go.Proofs.Ytcgccflcjejlhaa
open Go.ChangeShapes Go.WideShapes Go.ChangeAt Go.RowKit
theorem bounds_u8 {n : Int} (h : (Lit.int .u8 n).wf = true) : 0 ≤ n ∧ n ≤ 255 := by
  simp only [Lit.wf, Bool.and_eq_true, decide_eq_true_eq] at h
  exact h
/-- Small whole numbers in an array: each cell is one. -/
theorem open_arr {k : IntKind} {e : TypeId} {H : Type} {enc : TypeId × Value → H} {W : World} {spare : Nat → Bool} {held : Bool} {fuel n : Nat} {t : TypeId} {cs : List Value} {y : DataW H × List MemPlace} (he : Try.prog.underlying e = some (.int k)) (hc : Try.prog.cellsOf e = 1) (ht : Try.prog.underlying t = some (.array n e)) (hf : DataW.trod enc Try.prog W 0 spare held fuel t cs = some y) (hn : cs.length = n) :
    ∀ i, i < n → ∃ x, cs[i]? = some (.int k x) ∧ (Lit.int k x).wf = true := by
  obtain ⟨xs, m, _, _, hl, hlen, hel⟩ := DataW.trod_array ht hf
  intro i hi
  have f := hel i hi
  rw [hc, Nat.mul_one] at f
  rw [List.getElem?_eq_getElem (by omega : i < xs.length)] at f
  obtain ⟨x, q, -, wf⟩ := DataW.trod_int he f
  refine ⟨x, ?_, wf⟩
  have h1 : ((cs.drop i).take 1)[0]? = some (.int k x) := by rw [q]; rfl
  simpa using h1
end Go.Proofs.Ytcgccflcjejlhaa
namespace Go.Proofs.Ytcgccflcjejlhaa
open Go.RowKit
/-- A slice of bytes, and the byte that is used for a place of it. -/
def ByV (W : World) (a : Option Addr) (n : Nat) (bs : Nat → Int) : Prop := n = 0 ∨ ∃ b o, a = some ⟨b, o, none⟩ ∧ ByR W b o n bs ∧ n ≤ 9223372036854775807 ∧ ∀ i, i < n → 0 ≤ bs i ∧ bs i ≤ 255
def byAt (n : Nat) (bs : Nat → Int) (k : Nat) : Int := if n = 0 then 0 else bs (k % n)
theorem ByV.below {W W' : World} {a : Option Addr} {n : Nat} {bs : Nat → Int} (h : ByV W a n bs) (hb : Below W.heap.size W W') : ByV W' a n bs := by
  rcases h with h | ⟨b, o, e, h1, h2, h3⟩
  · exact .inl h
  · exact .inr ⟨b, o, e, h1.below hb, h2, h3⟩
theorem ByV.at {W : World} {a : Option Addr} {n : Nat} {bs : Nat → Int} (h : ByV W a n bs) (k : Nat) : 0 ≤ byAt n bs k ∧ byAt n bs k ≤ 255 := by
  unfold byAt
  rcases h with h | ⟨b, o, e, h1, h2, h3⟩
  · rw [if_pos h]; omega
  · split
    · omega
    · exact h3 _ (Nat.mod_lt _ (by omega))
end Go.Proofs.Ytcgccflcjejlhaa
namespace Go.Proofs.Ytcgccflcjejlhaa
open Go.ChangeShapes Go.WideShapes Go.ChangeAt Go.RowKit
/-- Small whole numbers in an array of arrays: each cell is one. -/
theorem open_arr2 {k : IntKind} {e e2 : TypeId} {H : Type} {enc : TypeId × Value → H} {W : World} {spare : Nat → Bool} {held : Bool} {fuel n m : Nat} {t : TypeId} {cs : List Value} {y : DataW H × List MemPlace} (he : Try.prog.underlying e = some (.int k)) (hc : Try.prog.cellsOf e = 1) (he2 : Try.prog.underlying e2 = some (.array m e)) (hc2 : Try.prog.cellsOf e2 = m) (ht : Try.prog.underlying t = some (.array n e2)) (hf : DataW.trod enc Try.prog W 0 spare held fuel t cs = some y) (hn : cs.length = n * m) :
    ∀ i j, i < n → j < m → ∃ x, cs[i * m + j]? = some (.int k x) ∧ (Lit.int k x).wf = true := by
  obtain ⟨xs, m', _, _, hl, hlen, hel⟩ := DataW.trod_array ht hf
  intro i j hi hj
  have f := hel i hi
  rw [hc2, List.getElem?_eq_getElem (by omega : i < xs.length)] at f
  have hle : (i + 1) * m ≤ n * m := Nat.mul_le_mul_right m hi
  rw [Nat.add_mul, Nat.one_mul] at hle
  obtain ⟨x, e1, w⟩ := open_arr he hc he2 f (by rw [List.length_take, List.length_drop]; omega) j hj
  refine ⟨x, ?_, w⟩
  rw [List.getElem?_take_of_lt hj, List.getElem?_drop] at e1
  exact e1
end Go.Proofs.Ytcgccflcjejlhaa
namespace Go.Proofs.Ytcgccflcjejlhaa
open Go.ChangeShapes Go.WideShapes Go.ChangeAt Go.RowKit
set_option maxRecDepth 100000 in
theorem open_j45 {H : Type} {enc : TypeId × Value → H} {W : World} {r : Reach} {b0 : Nat} {spare : Nat → Bool} {held : Bool} {v : Value} {d : DataW H} {ps : List MemPlace}
    (hv : Value.okWide Try.prog W r b0 23 v) (h : DataW.Trod enc Try.prog W 0 spare held 23 v d ps) :
    ∃ jv : Nat → Int, v = .agg #[.int .u8 (jv 0), .int .u8 (jv 1), .int .u8 (jv 2), .int .u8 (jv 3), .int .u8 (jv 4), .int .u8 (jv 5), .int .u8 (jv 6), .int .u8 (jv 7), .int .u8 (jv 8), .int .u8 (jv 9), .int .u8 (jv 10), .int .u8 (jv 11), .int .u8 (jv 12), .int .u8 (jv 13), .int .u8 (jv 14), .int .u8 (jv 15), .int .u8 (jv 16), .int .u8 (jv 17), .int .u8 (jv 18), .int .u8 (jv 19)] ∧ ∀ k, 0 ≤ jv k ∧ jv k ≤ 255 := by
  obtain ⟨cs, rfl, hsz⟩ := okWide_arr Try.underlying23 hv
  obtain ⟨fuel, hf⟩ := h
  have c20 : Try.prog.cellsOf 23 = 20 := by kernel_rfl
  have c5 : Try.prog.cellsOf 22 = 5 := by kernel_rfl
  have u1 : Try.prog.cellsOf 5 = 1 := by kernel_rfl
  rw [c20] at hsz
  obtain ⟨l⟩ := cs
  have hl : l.length = 20 := hsz
  have A0 := open_arr2 (cs := l) Try.underlying5 u1 Try.underlying22 c5 Try.underlying23 hf hl
  have key : ∀ i, i < 20 → ∃ x, l[i]? = some (.int .u8 x) ∧ 0 ≤ x ∧ x ≤ 255 := by
    intro i hi
    obtain ⟨x, e, w⟩ := A0 (i / 5) (i % 5) (by omega) (by omega)
    refine ⟨x, ?_, bounds_u8 w⟩
    rw [show i / 5 * 5 + i % 5 = i by omega] at e
    exact e
  obtain ⟨jv, hjv⟩ : ∃ jv : Nat → Int, (∀ i, i < 20 → l[i]? = some (.int .u8 (jv i))) ∧ ∀ k, 0 ≤ jv k ∧ jv k ≤ 255 := by
    refine ⟨fun i => if h : i < 20 then Classical.choose (key i h) else 0, fun i hi => ?_, fun k => ?_⟩
    · simp only [dif_pos hi]; exact (Classical.choose_spec (key i hi)).1
    · by_cases hk : k < 20
      · simp only [dif_pos hk]; exact (Classical.choose_spec (key k hk)).2
      · simp only [dif_neg hk]; omega
  refine ⟨jv, ?_, hjv.2⟩
  have e : l = (List.range 20).map fun i => Value.int .u8 (jv i) := by
    apply List.ext_getElem?
    intro i
    by_cases hi : i < 20
    · rw [hjv.1 i hi, List.getElem?_map, List.getElem?_range hi]; rfl
    · rw [List.getElem?_eq_none (by omega), List.getElem?_eq_none (by simp; omega)]
  subst e
  rfl
set_option maxRecDepth 100000 in
theorem open_u4 {H : Type} {enc : TypeId × Value → H} {W : World} {r : Reach} {b0 : Nat} {spare : Nat → Bool} {held : Bool} {v : Value} {d : DataW H} {ps : List MemPlace}
    (hv : Value.okWide Try.prog W r b0 24 v) (h : DataW.Trod enc Try.prog W 0 spare held 24 v d ps) :
    ∃ gv : Nat → Int, v = .agg #[.int .u8 (gv 0), .int .u8 (gv 1), .int .u8 (gv 2), .int .u8 (gv 3)] ∧ ∀ k, 0 ≤ gv k ∧ gv k ≤ 255 := by
  obtain ⟨cs, rfl, hsz⟩ := okWide_arr Try.underlying24 hv
  obtain ⟨fuel, hf⟩ := h
  have en : Try.prog.cellsOf 24 = 4 := by kernel_rfl
  have u1 : Try.prog.cellsOf 5 = 1 := by kernel_rfl
  rw [en] at hsz
  obtain ⟨l⟩ := cs
  match l, hsz with
  | [c0, c1, c2, c3], _ =>
    have A0 := open_arr (cs := [c0, c1, c2, c3]) Try.underlying5 u1 Try.underlying24 hf rfl
    obtain ⟨w0, e0, g0⟩ := A0 0 (by decide)
    obtain ⟨w1, e1, g1⟩ := A0 1 (by decide)
    obtain ⟨w2, e2, g2⟩ := A0 2 (by decide)
    obtain ⟨w3, e3, g3⟩ := A0 3 (by decide)
    obtain rfl := Option.some.inj e0
    obtain rfl := Option.some.inj e1
    obtain rfl := Option.some.inj e2
    obtain rfl := Option.some.inj e3
    refine ⟨fun j => [w0, w1, w2, w3].getD j 0, rfl, fun j => ?_⟩
    match j with
    | 0 => exact bounds_u8 g0
    | 1 => exact bounds_u8 g1
    | 2 => exact bounds_u8 g2
    | 3 => exact bounds_u8 g3
    | q + 4 => simp
end Go.Proofs.Ytcgccflcjejlhaa
