/- Part of the proof: what the claim leans on. -/
import Derived.Test.YtnhipdbdolabkaaWAM
import Derived.Test.YtnhipdbdolabkaaWAH
import Derived.RangeFuncNested
import Derived.RangeFuncBound
import Derived.RangeFuncCalls
import Derived.RangeFuncLeaves
import Derived.Shelf.Abstract
import Derived.Shelf.RegionOpen
import Derived.WalkKit
import Derived.OwnWalkIn
import Derived.TacticsInMore
import Derived.LoopNIn
import Derived.LoopIn
import Derived.Test.YtnhipdbdolabkaaWAA
import Derived.Test.YtnhipdbdolabkaaWAC
import Derived.Test.YtnhipdbdolabkaaWAF
import Derived.Test.YtnhipdbdolabkaaWAL
import Derived.Test.YtnhipdbdolabkaaWAI
import Derived.Test.YtnhipdbdolabkaaWAG
set_option linter.unusedSimpArgs false
set_option linter.unusedVariables false
namespace Go.Proofs.Ytnhipdbdolabkaa
open Go.RowKit
/-- The bytes of a box. -/
def fvS (sv : Nat → Int) (i : Nat) : Nat → Int
  | 18 => sv (7 * i + 0)
  | 19 => sv (7 * i + 1)
  | 20 => sv (7 * i + 2)
  | 21 => sv (7 * i + 3)
  | 22 => sv (7 * i + 4)
  | 23 => sv (7 * i + 5)
  | 24 => sv (7 * i + 6)
  | _ => 0
theorem fvS_bd {sv : Nat → Int} (g : ∀ k, 0 ≤ sv k ∧ sv k ≤ 255) (i : Nat) : ∀ k, 0 ≤ fvS sv i k ∧ fvS sv i k ≤ 255 := by
  intro k
  unfold fvS
  split <;> first | exact g _ | omega
theorem size_of {fv : Nat → Int} (gfv : ∀ k, 0 ≤ fv k ∧ fv k ≤ 255) : (1 ≤ acrossOf (boxB fv 100) ∧ acrossOf (boxB fv 100) ≤ 1700) ∧ (1 ≤ alongOf (boxB fv 100) ∧ alongOf (boxB fv 100) ≤ 900) := by
  have g18 := gfv 18; have g19 := gfv 19; have g20 := gfv 20; have g21 := gfv 21; have g22 := gfv 22; have g23 := gfv 23
  have e1 : ∀ m, acrossOf (boxB fv m) = fv 20 % 50 + ((60 + fv 18) + m) + ((50 + fv 19) + m) + ((60 + fv 18) + m) + ((50 + fv 19) + m) := fun _ => rfl
  have e2 : ∀ m, alongOf (boxB fv m) = max ((50 + fv 19) / 2 + fv 22 % 3) ((50 + fv 19) / 2 + fv 22 % 3) + ((40 + fv 21) + m) + max ((50 + fv 19) / 2 + fv 22 % 3) ((50 + fv 19) / 2 + fv 22 % 3 + fv 23 % 4) := fun _ => rfl
  rw [e1, e2]
  omega
/-- What pubBoxes leaves, box by box. -/
theorem boxes_ok {sv : Nat → Int} (gsv : ∀ k, 0 ≤ sv k ∧ sv k ≤ 255) (W : World) : Calls Try.prog 7 #[.agg #[.int .u8 (sv 0), .int .u8 (sv 1), .int .u8 (sv 2), .int .u8 (sv 3), .int .u8 (sv 4), .int .u8 (sv 5), .int .u8 (sv 6), .int .u8 (sv 7), .int .u8 (sv 8), .int .u8 (sv 9), .int .u8 (sv 10), .int .u8 (sv 11), .int .u8 (sv 12), .int .u8 (sv 13), .int .u8 (sv 14), .int .u8 (sv 15), .int .u8 (sv 16), .int .u8 (sv 17), .int .u8 (sv 18), .int .u8 (sv 19), .int .u8 (sv 20), .int .u8 (sv 21), .int .u8 (sv 22), .int .u8 (sv 23), .int .u8 (sv 24), .int .u8 (sv 25), .int .u8 (sv 26), .int .u8 (sv 27), .int .u8 (sv 28), .int .u8 (sv 29), .int .u8 (sv 30)]] W (fun e w' => ∃ v1 v2 v3, e = .returned (.tuple #[v1, v2, v3, .bool true]) ∧
    BxsO (fvS sv 0 20 % 50) (60 + fvS sv 0 18 + 100) (50 + fvS sv 0 19 + 100) (40 + fvS sv 0 21 + 100) ((50 + fvS sv 0 19) / 2 + fvS sv 0 22 % 3) ((50 + fvS sv 0 19) / 2 + fvS sv 0 22 % 3 + fvS sv 0 23 % 4) (fvS sv 0 24 % 21) (fvS sv 1 20 % 50) (60 + fvS sv 1 18 + 100) (50 + fvS sv 1 19 + 100) (40 + fvS sv 1 21 + 100) ((50 + fvS sv 1 19) / 2 + fvS sv 1 22 % 3) ((50 + fvS sv 1 19) / 2 + fvS sv 1 22 % 3 + fvS sv 1 23 % 4) (fvS sv 1 24 % 21) (fvS sv 2 20 % 50) (60 + fvS sv 2 18 + 100) (50 + fvS sv 2 19 + 100) (40 + fvS sv 2 21 + 100) ((50 + fvS sv 2 19) / 2 + fvS sv 2 22 % 3) ((50 + fvS sv 2 19) / 2 + fvS sv 2 22 % 3 + fvS sv 2 23 % 4) (fvS sv 2 24 % 21) v1 w' ∧ OwI 0 [acrossOf (boxB (fvS sv 0) 100), acrossOf (boxB (fvS sv 1) 100), acrossOf (boxB (fvS sv 2) 100)] 3 v2 w' ∧ OwI 0 [alongOf (boxB (fvS sv 0) 100), alongOf (boxB (fvS sv 1) 100), alongOf (boxB (fvS sv 2) 100)] 3 v3 w' ∧ Below W.heap.size W w') :=
  pubBoxes_any sv _ _ _ _ _ _ _ _ _ _ _ _ _ _ _ _ _ _ _ _ _
    (acrossOf (boxB (fvS sv 0) 100)) (alongOf (boxB (fvS sv 0) 100)) _ (acrossOf (boxB (fvS sv 1) 100)) (alongOf (boxB (fvS sv 1) 100)) _ (acrossOf (boxB (fvS sv 2) 100)) (alongOf (boxB (fvS sv 2) 100)) _ _ _ _ W (box_ok (fvS_bd gsv 0) (by decide)) (box_ok (fvS_bd gsv 1) (by decide)) (box_ok (fvS_bd gsv 2) (by decide))
    rfl (boxB_ok (fvS_bd gsv 0) (by decide)) rfl rfl rfl (by have := size_of (fvS_bd gsv 0); omega) (by have := size_of (fvS_bd gsv 0); omega) rfl (boxB_ok (fvS_bd gsv 1) (by decide)) rfl rfl rfl (by have := size_of (fvS_bd gsv 1); omega) (by have := size_of (fvS_bd gsv 1); omega) rfl (boxB_ok (fvS_bd gsv 2) (by decide)) rfl rfl rfl (by have := size_of (fvS_bd gsv 2); omega) (by have := size_of (fvS_bd gsv 2); omega)
end Go.Proofs.Ytnhipdbdolabkaa
namespace Go.Proofs.Ytnhipdbdolabkaa
open Go.RowKit Go.Shelf
/-- All blocks but those of S are kept. -/
structure KeepP (S : Nat → Prop) (W W' : World) : Prop where
  os : W'.os = W.os
  tape : W'.tape = W.tape
  output : W'.output = W.output
  size : W.heap.size ≤ W'.heap.size
  block : ∀ k o, ¬ S k → W.heap[k]? = some o → W'.heap[k]? = some o
theorem KeepP.refl (S : Nat → Prop) (W : World) : KeepP S W W := ⟨rfl, rfl, rfl, Nat.le_refl _, fun _ _ _ h => h⟩
theorem KeepP.trans {S : Nat → Prop} {A B C : World} (h : KeepP S A B) (k : KeepP S B C) : KeepP S A C :=
  ⟨k.os.trans h.os, k.tape.trans h.tape, k.output.trans h.output, Nat.le_trans h.size k.size, fun i o hi hx => k.block i o hi (h.block i o hi hx)⟩
theorem KeepP.of_below {S : Nat → Prop} {A B : World} (h : Below A.heap.size A B) : KeepP S A B :=
  ⟨h.os, h.tape, h.output, h.size, fun i o _ hx => (h.block i (Array.getElem?_eq_some_iff.1 hx).1).trans hx⟩
theorem KeepP.below {S : Nat → Prop} {B : Nat} {A C : World} (h : KeepP S A C) (hb : ∀ k, S k → B ≤ k) (hB : B ≤ A.heap.size) : Below B A C :=
  ⟨h.os, h.tape, h.output, h.size, fun k hk => by
    have hx : A.heap[k]? = some A.heap[k] := Array.getElem?_eq_getElem (by omega)
    rw [hx]; exact h.block k _ (fun hs => by have := hb k hs; omega) hx⟩
theorem KeepP.more {S S' : Nat → Prop} {A B : World} (h : KeepP S A B) (hs : ∀ k, S k → S' k) : KeepP S' A B :=
  ⟨h.os, h.tape, h.output, h.size, fun k o hk hx => h.block k o (fun e => hk (hs k e)) hx⟩
end Go.Proofs.Ytnhipdbdolabkaa
namespace Go.Proofs.Ytnhipdbdolabkaa
open Go.RowKit Go.Shelf
theorem calls_frM {P : Program} {f : FuncId} {fn : Func} {c : Code} {args : Array Value} {w : World} {R : Ending → World → Prop} {N n : Nat} (hf : P.funcs[f]? = some fn) (hN : fn.ntmps = N) (hb : fn.body = some c) (a : decide (args.size ≤ N) = true)
    (h : ∀ g : Nat → Value, (∀ i, g i = args.getD i undef) → c.wp P (bodyPostM Fence.wide n P fn R) (fr N g) w) : Calls P f args w R := by
  subst hN
  refine (callsIn_wide (n := n)).1 (callsIn_of_wp_marks hf hb trivial (wpIn_wide.2 ?_) rfl)
  have := h (fun i => args.getD i undef) fun _ => rfl
  have hs' := of_decide_eq_true a
  have e : fr fn.ntmps (fun i => args.getD i undef) = { tmps := args ++ Array.replicate (fn.ntmps - args.size) undef, defers := [] } := by
    simp only [fr, Act.mk.injEq, and_true]
    apply Array.ext
    · simp; omega
    · intro i h1 h2
      simp only [List.getElem_toArray, List.getElem_map, List.getElem_range]
      by_cases hi : i < args.size
      · rw [Array.getElem_append_left hi]; simp [hi]
      · rw [Array.getElem_append_right (by omega)]; simp [hi]
  rw [← e]; exact this
/-- Leaving it: the mark is taken, and there is no deferred call behind it. -/
theorem leave_mark {P : Program} {fn : Func} {R : Ending → World → Prop} {tmps : Array Value} {W : World} {D n : Nat} {v : Value} {e : Exit} {a : Act} (he : e = .normal ∨ e = .ret) (ha : a.tmps = tmps) (hd : a.defers = [{ target := .collected D, args := #[] }]) (hD : W.heap[D]? = some (.deferred (some [])))
    (hr : ∀ W', (results fn tmps).run P W' = .ok v W') (h : R (.returned v) (W.putObj D (.deferred none))) : bodyPostM Fence.wide n P fn R e a W := by
  have key : LeavesInM Fence.wide n P fn a.tmps R a.defers .returning W := by
    rw [hd, ha]
    exact ⟨by simp, .inl ⟨D, _, rfl, run_takeDeferred hD, v, hr _, h⟩⟩
  rcases he with rfl | rfl
  · exact key
  · exact key
theorem below_put {B : Nat} {W : World} {l : Nat} {o : Obj} (h : B ≤ l) : Below B W (W.putObj l o) :=
  ⟨rfl, rfl, rfl, by rw [putObj_size]; exact Nat.le_refl _, fun k hk => World.putObj_heap_other (by omega)⟩
/-- A frame with deferred calls. -/
def frD (ds : List Deferred) (N : Nat) (g : Nat → Value) : Act := { tmps := (fr N g).tmps, defers := ds }
theorem frD_evv {ds : List Deferred} {N : Nat} {g : Nat → Value} {t : Nat} {v : Value} (hv : g t = v) (ht : decide (t < N) = true := by rfl) : (frD ds N g).tmps[t]?.getD undef = v := frv N hv ht
end Go.Proofs.Ytnhipdbdolabkaa
namespace Go.Proofs.Ytnhipdbdolabkaa
open Go.RowKit Go.Shelf
/-- What a yield leaves: the next state, all blocks but its own kept, no older block become its own. -/
def YldG (J : Nat → (Nat → Prop) → World → Prop) (i : Nat) (G : Nat → Prop) (W : World) (e : Ending) (W' : World) : Prop :=
  e = .returned (.bool true) ∧ ∃ G', J (i + 1) G' W' ∧ KeepP G W W' ∧ ∀ b, G' b → G b ∨ W.heap.size ≤ b
/-- J depends on nothing but blocks before B, its own ones, and those that hold cells. -/
def NoCells (W : World) (b : Nat) : Prop := ∀ cs T m, W.heap[b]? ≠ some (.cells cs T m)
theorem noCells_of {W : World} {b : Nat} {o : Obj} (h : W.heap[b]? = some o) (hn : ∀ cs T m, o ≠ .cells cs T m) : NoCells W b := fun cs T m e => by rw [h] at e; exact hn cs T m (Option.some.inj e)
def StabG (J : Nat → (Nat → Prop) → World → Prop) (B : Nat) : Prop := ∀ i G W W', J i G W → KeepP (fun b => B ≤ b ∧ ¬ G b ∧ NoCells W b) W W' → J i G W'
theorem StabG.below {J : Nat → (Nat → Prop) → World → Prop} {B i : Nat} {G : Nat → Prop} {W W' : World} (h : StabG J B) (hj : J i G W) (hb : Below W.heap.size W W') : J i G W' := h i G W W' hj (KeepP.of_below hb)
theorem keepP_put {B l : Nat} {G : Nat → Prop} {W : World} {o : Obj} {r : Loop} (hl : B ≤ l) (hg : ¬ G l) (hr : W.heap[l]? = some (.loop r)) : KeepP (fun b => B ≤ b ∧ ¬ G b ∧ NoCells W b) W (W.putObj l o) :=
  ⟨rfl, rfl, rfl, by rw [putObj_size]; exact Nat.le_refl _, fun k x hk hx => (World.putObj_heap_other (fun e => hk (by subst e; exact ⟨hl, hg, noCells_of hr (fun _ _ _ h => nomatch h)⟩))).trans hx⟩
set_option maxHeartbeats 4000000 in
theorem range_g {n : Nat} {P : Program} {g : Operand} {ps : Array Tmp} {assign body : Code} {Q : Exit → Act → World → Prop} {a : Act} {w : World} {gf : Nat} {rcv lb : Array Value}
    (hg : a.eval g = .func (.func gf) rcv lb) (eg : ∀ args w, (callFunc gf args).run P w = .ok (.enter gf args) w) (m : Nat) (E : Nat → (Nat → Prop) → Array Value → World → Prop) (hps : ∀ i G v W, E i G v W → v.size = ps.size)
    (I : Nat → (Nat → Prop) → World → Prop) (hI : StabG I w.heap.size) (G0 : Nat → Prop) (hG0 : ∀ b, G0 b → b < w.heap.size)
    (hit : ∀ (l : Nat) (W1 : World) (J : Nat → (Nat → Prop) → World → Prop), w.heap.size ≤ l → l < W1.heap.size → Below w.heap.size w W1 → StabG J W1.heap.size → (∀ i G W, J i G W → I i G W) →
      (∀ i G W v, i < m → J i G W → W1.heap.size ≤ W.heap.size → E i G v W → YieldAt Fence.wide (n - 1 - 1) P l v W (YldG J i G W)) → J 0 G0 W1 →
      CallsIn Fence.wide (n - 1) P gf (rcv ++ #[.func (.yield l) #[] #[]] ++ lb) W1 fun e W' => (∃ v, e = .returned v) ∧ ∃ G, J m G W')
    (h0 : I 0 G0 w) (A : Nat → (Nat → Prop) → Act → World → Prop) (hAp : ∀ i G a' W r o, W.heap[w.heap.size + 1]? = some (.loop r) → A i G a' W → A i G a' (W.putObj (w.heap.size + 1) o))
    (hassign : ∀ (l i : Nat) (G : Nat → Prop) (W : World) (v : Array Value) (K : Act → World → Prop), i < m → I i G W → w.heap.size + 1 < W.heap.size → E i G v W → (∀ a' W', Below W.heap.size W W' → A i G a' W' → K a' W') → assign.wpIn (Fence.wide.inRound l) (n - 1 - 1) P (Exit.then K fun _ _ _ => False) { tmps := (ps.zip v).foldl (fun t (p, v) => t.setIfInBounds p v) a.tmps, defers := [] } W)
    (hbody : ∀ (l i : Nat) (G : Nat → Prop) (a' : Act) (W : World), i < m → I i G W → A i G a' W → body.wpIn (Fence.wide.inRound l) (n - 1 - 1) P (fun e _ W' => e = .normal ∧ ∃ G', I (i + 1) G' W' ∧ KeepP G W W' ∧ ∀ b, G' b → G b ∨ W.heap.size ≤ b) a' W)
    (hdone : ∀ (D : Nat) (G : Nat → Prop) (W : World), w.heap.size ≤ D → ¬ G D → I m G W → W.heap[D]? = some (.deferred (some [])) → Q .normal { a with defers := { target := .collected D, args := #[] } :: a.defers } W) :
    (Code.rangeFunc g ps assign body).wpIn Fence.wide n P Q a w := by
  refine wpIn_rangeFunc fun fn _ => ?_
  obtain ⟨rc, hrc⟩ : ∃ rc : LoopState → Option Code → Loop, ∀ st pe, rc st pe = { state := st, pending := pe, fn, tmps := a.tmps, params := ps, assign, body, defers := w.heap.size } := ⟨_, fun _ _ => rfl⟩
  obtain ⟨V, hV⟩ : ∃ V, (w.alloc (.deferred (some []))).alloc (.loop (rc .ready none)) = V := ⟨_, rfl⟩
  have hbV : Below w.heap.size w V := hV ▸ ((Below.refl _ w).alloc (Nat.le_refl _) _).alloc (by simp) _
  have hL : V.heap[w.heap.size + 1]? = some (.loop (rc .ready none)) := by
    rw [← hV]; have := World.alloc_heap_new (w.alloc (.deferred (some []))) (.loop (rc .ready none)); rwa [World.size_alloc] at this
  have hD : V.heap[w.heap.size]? = some (.deferred (some [])) := by
    rw [← hV]; exact (Below.heap_alloc _ _ _ (by simp)).trans (World.alloc_heap_new w _)
  have hlV := (Array.getElem?_eq_some_iff.1 hL).1
  refine ⟨w.heap.size + 1, [{ target := .collected w.heap.size, args := #[] }], V, { target := .fn (.func gf) lb, args := rcv ++ #[.func (.yield (w.heap.size + 1)) #[] #[]] }, V, gf, rcv ++ #[.func (.yield (w.heap.size + 1)) #[] #[]] ++ lb, V, ?_, ?_, fun _ _ => trivial, ?_, fun h => by simp [Fence.wide] at h, ?_⟩
  · rw [← hV, hrc]; exact run_enterLoop_outer _ _ _ _ _
  · simp only [resolve, hg]
    simp [go_sem]
  · simp [invoke, go_sem, eg]
  · have keep : ∀ {A B : World} {k : Nat} {o : Obj}, A.heap[k]? = some o → Below A.heap.size A B → B.heap[k]? = some o := fun hx hb => (hb.block _ (Array.getElem?_eq_some_iff.1 hx).1).trans hx
    refine (hit (w.heap.size + 1) V (fun i G W => I i G W ∧ W.heap[w.heap.size + 1]? = some (.loop (rc .ready none)) ∧ W.heap[w.heap.size]? = some (.deferred (some [])) ∧ ¬ G (w.heap.size + 1) ∧ ¬ G w.heap.size) (Nat.le_succ _) hlV hbV ?_ (fun _ _ _ h => h.1) ?_ ⟨hI.below h0 hbV, hL, hD, fun h => by have := hG0 _ h; omega, fun h => by have := hG0 _ h; omega⟩).mono ?_
    · rintro i G W W' ⟨h1, h2, h3, h4, h5⟩ hk
      exact ⟨hI i G W W' h1 (hk.more fun k hk => ⟨by have := hbV.size; omega, hk.2⟩), hk.block _ _ (fun e => by omega) h2, hk.block _ _ (fun e => by omega) h3, h4, h5⟩
    · rintro i G W v hi ⟨hI0, hl, hd, hn1, hn2⟩ hsz hv
      have hy := run_yield (P := P) (args := v) hl (by rw [hrc]; exact hps i G v W hv)
      rw [hrc] at hy
      refine ⟨fn, _, assign, body, hy, roundIn_of_wpIn trivial (hassign _ i G W v _ hi hI0 (Array.getElem?_eq_some_iff.1 hl).1 hv fun a' W0 hb0 hA0 => ⟨_, run_beginRound (keep hl hb0) (by rw [hrc]), ?_⟩)⟩
      have hl0 := keep hl hb0
      have hd0 := keep hd hb0
      have hI0' : I i G W0 := hI.below hI0 hb0
      obtain ⟨X, hX⟩ : ∃ X, W0.putObj (w.heap.size + 1) (.loop { rc .ready none with state := .busy }) = X := ⟨_, rfl⟩
      rw [hX]
      have hlX : X.heap[w.heap.size + 1]? = some (.loop { rc .ready none with state := .busy }) := hX ▸ World.putObj_heap_same (Array.getElem?_eq_some_iff.1 hl0).1
      have hoX : ∀ k, k ≠ w.heap.size + 1 → X.heap[k]? = W0.heap[k]? := fun k hk => hX ▸ World.putObj_heap_other (fun e => hk e)
      have hIX : I i G X := hX ▸ hI i G W0 _ hI0' (keepP_put (by omega) hn1 hl0)
      have hAX : A i G a' X := hX ▸ hAp i G a' W0 _ _ hl0 hA0
      have hzX : W.heap.size ≤ X.heap.size := by rw [← hX, putObj_size]; exact hb0.size
      refine wpIn_mono (hbody _ i G a' X hi hIX hAX) ?_
      rintro e a3 Y ⟨rfl, G', hI3, hk, hG'⟩
      have hlY := hk.block _ _ hn1 hlX
      have hr := run_endRound (P := P) none hlY
      obtain ⟨Z, hZ⟩ : ∃ Z, Y.putObj (w.heap.size + 1) (.loop { { rc .ready none with state := .busy } with state := if (none : Option Code).isNone then .ready else .done, pending := none }) = Z := ⟨_, rfl⟩
      rw [hZ] at hr
      have hlZ : Z.heap[w.heap.size + 1]? = some (.loop (rc .ready none)) := by
        rw [← hZ, World.putObj_heap_same (Array.getElem?_eq_some_iff.1 hlY).1, hrc]; rfl
      have hoZ : ∀ k, k ≠ w.heap.size + 1 → Z.heap[k]? = Y.heap[k]? := fun k hk => hZ ▸ World.putObj_heap_other (fun e => hk e)
      have hszl := (Array.getElem?_eq_some_iff.1 hlX).1
      have hn1' : ¬ G' (w.heap.size + 1) := fun h => (hG' _ h).elim hn1 (fun h => by omega)
      have hn2' : ¬ G' w.heap.size := fun h => (hG' _ h).elim hn2 (fun h => by omega)
      refine ⟨_, _, hr, rfl, G', ⟨hZ ▸ hI _ _ Y _ hI3 (keepP_put (by omega) hn1' hlY), hlZ, ?_, hn1', hn2'⟩, ?_, fun b hb => (hG' b hb).imp id fun h => Nat.le_trans hzX h⟩
      · rw [hoZ _ (by omega)]
        exact hk.block _ _ hn2 ((hoX _ (by omega)).trans hd0)
      · refine ⟨?_, ?_, ?_, ?_, fun k o hk2 hx => ?_⟩
        · rw [← hZ]; exact hk.os.trans ((hX ▸ rfl : X.os = W0.os).trans hb0.os)
        · rw [← hZ]; exact hk.tape.trans ((hX ▸ rfl : X.tape = W0.tape).trans hb0.tape)
        · rw [← hZ]; exact hk.output.trans ((hX ▸ rfl : X.output = W0.output).trans hb0.output)
        · rw [← hZ, putObj_size]; have := hk.size; omega
        · by_cases e : k = w.heap.size + 1
          · subst e; rw [hlZ, ← hl, hx]
          · rw [hoZ k e]; exact hk.block k o hk2 ((hoX k e).trans (keep hx hb0))
    · rintro e W2 ⟨⟨v, rfl⟩, G, hI2, hl, hd, hn1, hn2⟩
      have hr := run_endLoop (P := P) hl (by rw [hrc]; simp)
      refine ⟨none, _, by rw [hr, hrc], hdone _ G _ (Nat.le_refl _) hn2 (hI _ _ _ _ hI2 (keepP_put (by omega) hn1 hl)) ((World.putObj_heap_other (by omega)).trans hd)⟩
theorem yieldAt_fuel {m m' : Nat} {P : Program} {l : Nat} {args : Array Value} {W : World} {R : Ending → World → Prop} (h : YieldAt Fence.wide m P l args W R) : YieldAt Fence.wide m' P l args W R := by
  obtain ⟨fn, tmps, assign, body, h1, h2, h3⟩ := h
  exact ⟨fn, tmps, assign, body, h1, h2, fun c cs _ => h3 c cs (room_wide _)⟩
/-- Marks of ranges over functions. -/
def mkD (D : Nat) : Deferred := { target := .collected D, args := #[] }
def MarksOk (W : World) (Ds : List Nat) : Prop := Ds.Pairwise (· ≠ ·) ∧ ∀ D ∈ Ds, W.heap[D]? = some (.deferred (some []))
theorem leaves_marks {P : Program} {fn : Func} {tmps : Array Value} {n : Nat} {v : Value} {R : Ending → World → Prop} (hr : ∀ W', (results fn tmps).run P W' = .ok v W') : ∀ (Ds : List Nat) (W : World), MarksOk W Ds → (∀ W', KeepP (fun b => b ∈ Ds) W W' → R (.returned v) W') → LeavesInM Fence.wide n P fn tmps R (Ds.map mkD) .returning W
  | [], W, _, h => ⟨v, hr W, h W (KeepP.refl _ _)⟩
  | D :: Ds, W, hm, h => by
    have hD := hm.2 D (by simp)
    refine ⟨by simp, .inl ⟨D, _, rfl, run_takeDeferred hD, ?_⟩⟩
    have hp := List.pairwise_cons.1 hm.1
    refine leaves_marks hr Ds _ ⟨hp.2, fun E hE => ?_⟩ fun W' hk => h W' ?_
    · exact (World.putObj_heap_other (fun e => hp.1 E hE e.symm)).trans (hm.2 E (List.mem_cons_of_mem _ hE))
    · refine KeepP.trans (B := W.putObj D (.deferred none)) ⟨rfl, rfl, rfl, by rw [putObj_size]; exact Nat.le_refl _, fun k x hk hx => (World.putObj_heap_other (fun e => hk (by simp [e]))).trans hx⟩ (hk.more fun k hk => List.mem_cons_of_mem _ hk)
theorem leave_marks {P : Program} {fn : Func} {tmps : Array Value} {W : World} {n : Nat} {v : Value} {R : Ending → World → Prop} {e : Exit} {a : Act} {Ds : List Nat} (he : e = .normal ∨ e = .ret) (ha : a.tmps = tmps) (hd : a.defers = Ds.map mkD) (hD : MarksOk W Ds)
    (hr : ∀ W', (results fn tmps).run P W' = .ok v W') (h : ∀ W', KeepP (fun b => b ∈ Ds) W W' → R (.returned v) W') : bodyPostM Fence.wide n P fn R e a W := by
  have key : LeavesInM Fence.wide n P fn a.tmps R a.defers .returning W := by
    rw [hd, ha]; exact leaves_marks hr Ds W hD h
  rcases he with rfl | rfl
  · exact key
  · exact key
theorem MarksOk.keep {W W' : World} {S : Nat → Prop} {Ds : List Nat} (h : MarksOk W Ds) (hk : KeepP S W W') (hn : ∀ D ∈ Ds, ¬ S D) : MarksOk W' Ds := ⟨h.1, fun D hD => hk.block _ _ (hn D hD) (h.2 D hD)⟩
/-- A region where deferred calls are kept. -/
theorem holds_frD (ops : Array Oper) (ds : List Deferred) (N : Nat) (al : List (Nat × Nat)) (f g : Nat → Value) : Holds' ops N (ov al f g) (frD ds N (ov al f g)) :=
  ⟨(holds_fr ops N al f g).at', (holds_fr ops N al f g).ev, (holds_fr ops N al f g).says⟩
section
variable {P : Program} {ops : Array Oper} {Q : Exit → Act → World → Prop}
theorem region_doD {id : Nat} {draw : Bool} {N : Nat} {dl : List Deferred} {g : Nat → Value} {w : World} (n : Nat) (al : List (Nat × Nat)) (ds : List (List Nat)) (R : Nat → Value → (Nat → Nat) → World → Prop)
    (hm : P.follows .mixedOrders = true) (hal : okSlots ops al = true) (hok : okWaits ops ds (if draw then n else ops.size) = true) (hn : decide (n ≤ ops.size) = true) (hst : Stays R ds 0 n) (steps : OpsDo P ops Q N al g R w ds 0 n)
    (fin : ∀ f s W, Behind R w n f s W → wpOps P ops Q (List.range' n (ops.size - n)) (frD dl N (ov al f g)) W) :
    (Code.region id ops draw).wp P Q (frD dl N g) w := by
  obtain ⟨f0, hf0, hf1⟩ := ov_start (g := g) hal
  have h := wp_region_adds (P := P) (Q := Q) (id := id) (draw := draw) (w := w) (Le := fun a b => Below a.heap.size a b) (R := fun i v s W => i < n → R i v s W) (mk := fun f => frD dl N (ov al f g)) n ds f0 hm hok hn
    (fun a => Below.refl _ _) (fun a => (Below.refl _ _).drew) (fun a b c => below_trans) (fun a b h => h.size)
    (fun i v k W W' hle h hi => by have := (stays_at n 0 hst i hi).1 v k W W' hle; rw [Nat.zero_add] at this; exact this (h hi))
    (fun i v s s' W he h hi => by have := (stays_at n 0 hst i hi).2 v s s' W; rw [Nat.zero_add] at this; exact this he (h hi))
    ?_ ?_
  · simp only [hf0] at h; exact h
  · have key : ∀ m i, i + m = n → AddSteps P ops Q (fun a b => Below a.heap.size a b) (fun i v k W => i < n → R i v k W) (fun f => frD dl N (ov al f g)) w f0 ds i m := by
      intro m
      induction m with
      | zero => intro i _; exact True.intro
      | succ m ih =>
        intro i him
        refine ⟨fun f s W hle hd hlate K hK => ?_, ih (i + 1) (by omega)⟩
        have hsz : i < ops.size := by have := of_decide_eq_true hn; omega
        have ho := Array.getElem?_eq_getElem hsz
        have hdo := opsDo_at n 0 steps i (by omega) f s W hle
        rw [Nat.zero_add] at hdo
        have hdd : ∀ k, (ds.getD i []).contains k = true → R k (f k) s W ∧ w.heap.size ≤ s k := fun k hk => by
          have hk' : k ∈ ds.getD i [] := by simpa using hk
          have hlt := ((okWaits_at hok ho).1 k hk').1
          have := allIn_mem hd k hk'
          exact ⟨this.1 (by omega), this.2⟩
        refine hdo (fun k hk => (hdd k hk).1) (fun k hk => (hdd k hk).2) (fun p d hp hd' => (hlate p (by simpa using hp)).trans (hf1 (d, p) (by simpa using hd'))) _ (holds_frD _ _ _ _ _ _) K fun v W' hb hR => ?_
        have := hK v W' hb fun _ => hR
        rw [ho]
        simp only [Option.bind_some]
        have e := okSlots_at hal ho N f g v
        have e' : (frD dl N (ov al f g)).put ops[i].dst v = frD dl N (ov al (upd f i v) g) := by
          have e2 := congrArg (fun a : Act => ({ tmps := a.tmps, defers := dl } : Act)) e
          cases hx : ops[i].dst <;> (rw [hx] at e2; exact e2)
        rw [e']
        exact this
    exact key n 0 (by omega)
  · rintro f s t W ⟨h1, h2, h3⟩
    exact fin f s W ⟨h1, fun i hi => (h2 i hi).1 hi, fun i hi => (h2 i hi).2.1, t, fun i hi => ⟨(h2 i hi).2.2.1, (h2 i hi).2.2.2.1, (h2 i hi).2.2.2.2.imp fun _ h => ⟨h.1 hi, h.2⟩⟩, fun i j hi hj => h3 i j hi hj⟩
end
end Go.Proofs.Ytnhipdbdolabkaa
namespace Go.Proofs.Ytnhipdbdolabkaa
open Go.RowKit
/-- A slice's address is known where it is not empty. -/
def AdOk (a : Option Addr) (n : Nat) : Prop := (n = 0 ∧ a = none) ∨ ∃ b o, a = some ⟨b, o, none⟩
theorem AdOk.clip {a : Option Addr} {n k : Nat} (h : AdOk a n) : (if n = 0 then a else Option.map (fun x : Addr => x.add (0 * k)) a) = a := by
  rcases h with ⟨h, e⟩ | ⟨b, o, e⟩
  · rw [if_pos h]
  · subst e
    split
    · rfl
    · simp [Addr.add]
/-- append(clip(l), x..): the old row is kept, the longer one is new. -/
theorem appClip (sl ty T : TypeId) (z by_ : Nat) (zero : Value) (hu : Try.prog.underlying sl = some (.slice T)) (hi : (Try.prog.info? T).map (fun i => (i.zero, i.size, i.bytes)) = some (some zero, z, by_)) (hzz : decide (0 < z ∧ zero.cells.size = z) = true)
    {W : World} {a : Option Addr} {n : Nat} {olds : List Value} (hlo : olds.length = n * z) (ho : (n = 0 ∧ a = none) ∨ ∃ b o, a = some ⟨b, o, none⟩ ∧ ∀ j u, olds[j]? = some u → W.cell? ⟨b, o + j, none⟩ = some u)
    {b off k c' : Nat} (es : List Value) (hel : decide (es.length = k * z ∧ 0 < k) = true) (h1 : es.all (·.oneCell') = true) (hb : ∀ j u, es[j]? = some u → W.cell? ⟨b, off + j, none⟩ = some u) (hn : (n + k) * (by_ + 1) ≤ 1000000000) :
    ∃ g' c2 W', (Builtin.append_ #[sl, sl] ty #[.slice a n n, .slice (some ⟨b, off, none⟩) k c']).run Try.prog W = .ok (.slice (some ⟨g', 0, none⟩) (n + k) c2) W' ∧ OwnR T z W.heap.size (n + k) (olds ++ es) g' c2 W' ∧ Below W.heap.size W W' := by
  rcases ho with ⟨h0, ha⟩ | ⟨b0, o0, ha, hc⟩
  · subst h0 ha
    obtain rfl : olds = [] := List.eq_nil_of_length_eq_zero (by omega)
    obtain ⟨g', c2, W', h2, h3, -, -, -, h6⟩ := growR_nil (w := W) (W := W) sl ty T z by_ zero hu hi hzz (0 + k) (c' := c') es (Below.refl _ _) rfl hel h1 hb (decide_eq_true hn)
    exact ⟨g', c2, W', h2, h3, h6⟩
  · subst ha
    obtain ⟨hz0, hzs⟩ := of_decide_eq_true hzz
    obtain ⟨hel, hk⟩ := of_decide_eq_true hel
    obtain ⟨i0, hi, hz0', hz1, hz2⟩ := info_parts hi
    have hnk : n + k ≤ (n + k) * (by_ + 1) := Nat.le_mul_of_pos_right _ (Nat.succ_pos _)
    have hnb : (n + k) * by_ ≤ (n + k) * (by_ + 1) := Nat.mul_le_mul_left _ (Nat.le_succ _)
    obtain ⟨v, W', hr, hown, hgr⟩ := run_append_arg_grows (P := Try.prog) W sl ty T i0 zero z by_ hu hi hz0' hz1 hz2 hzs hz0 ⟨b0, o0, none⟩ n n olds hlo (fun j u hj => by rw [add_plain']; exact hc j u hj) ⟨b, off, none⟩ k c' es hel
      (fun j u hj => by rw [add_plain']; exact hb j u hj) (by omega) (by unfold maxLen; omega) (by omega)
    obtain ⟨g2, cap2, rfl⟩ := Joins.ownsRow_form hown (by omega)
    exact ⟨g2, cap2, W', hr, ⟨own_ge hown g2 rfl, own_lt' hown, hown⟩, (Below.refl _ _).grown hgr (Nat.le_refl _) (fun k e => by cases e)⟩
theorem Ii.olds {W : World} {a : Option Addr} {n c : Nat} {xs : List Int} (h : Ii W a n c xs) (ha : AdOk a n) : (n = 0 ∧ a = none) ∨ ∃ b o, a = some ⟨b, o, none⟩ ∧ ∀ j u, (iis xs)[j]? = some u → W.cell? ⟨b, o + j, none⟩ = some u := by
  rcases ha with ha | ⟨b, o, rfl⟩
  · exact .inl ha
  · refine .inr ⟨b, o, rfl, fun j u hj => ?_⟩
    have hlt : j < xs.length := by
      rcases Nat.lt_or_ge j xs.length with h' | h'
      · exact h'
      · rw [List.getElem?_eq_none (by simpa [iis] using h')] at hj; cases hj
    obtain ⟨b', o', e, -, hc⟩ := h.at (by omega)
    cases e
    rw [hc j hlt]
    unfold iis at hj
    rw [List.getElem?_map, List.getElem?_eq_getElem hlt] at hj
    simp only [Option.map_some, Option.some.injEq] at hj
    rw [← hj, List.getD_eq_getElem?_getD, List.getElem?_eq_getElem hlt]; rfl
theorem appClipI (ty : TypeId) {W : World} {a : Option Addr} {n b : Nat} {xs : List Int} {x : Int} (h : Ii W a n n xs) (ha : AdOk a n) (hb : W.heap[b]? = some (.cells #[.int .i64 x] 3 (0, 0))) (hn : n ≤ 1000) :
    ∃ v W', (Builtin.append_ #[29, 29] ty #[.slice a n n, .slice (some ⟨b, 0, none⟩) 1 1]).run Try.prog W = .ok v W' ∧ Below W.heap.size W W' ∧ NwIi W.heap.size (xs ++ [x]) v W' := by
  have hl : xs.length = n := h.1.symm
  obtain ⟨g', c2, W', hr, ho, hb'⟩ := appClip 29 ty 3 1 8 (.int .i64 0) Try.underlying29 infoI rfl (W := W) (a := a) (n := n) (olds := iis xs) (by simp [iis, hl]) (h.olds ha) (b := b) (off := 0) (k := 1) (c' := 1) [.int .i64 x] rfl rfl (cells_at hb) (by omega)
  have hl2 : (xs ++ [x]).length = n + 1 := by simp [hl]
  refine ⟨_, W', hr, hb', g', c2, by rw [hl2], ?_, ho.1, ho.2.1⟩
  have : OwnI W.heap.size (xs ++ [x]) g' c2 W' := by
    refine ⟨ho.1, ho.2.1, ?_⟩
    rw [hl2, List.map_append]; exact ho.2.2
  exact this.ii
/-- The patterns that begin with some webs. -/
def patL (p : Tp) (os : Nat → To) (no : Nat) : Nat → List Int → List (List Int)
  | 0, xs => if patF p os xs no then [xs] else []
  | d + 1, xs => (List.range (p.webs.toNat + 1)).flatMap fun k : Nat => patL p os no d (xs ++ [(k : Int)])
/-- How many of them begin with some webs and a number below k. -/
def patN (p : Tp) (os : Nat → To) (no d : Nat) (xs : List Int) : Nat → Nat
  | 0 => 0
  | k + 1 => patN p os no d xs k + (patL p os no d (xs ++ [(k : Int)])).length
theorem flat_at {α : Type} (f : Nat → List α) (N : Nat → Nat) (h0 : N 0 = 0) (hs : ∀ k, N (k + 1) = N k + (f k).length) : ∀ (m k j : Nat), k < m → j < (f k).length → ((List.range m).flatMap f)[N k + j]? = (f k)[j]?
  | 0, _, _, h, _ => absurd h (Nat.not_lt_zero _)
  | m + 1, k, j, h, hj => by
    have hlen : ∀ m, ((List.range m).flatMap f).length = N m := by
      intro m
      induction m with
      | zero => simp [h0]
      | succ m ih => rw [List.range_succ, List.flatMap_append, List.length_append, ih, hs]; simp
    have hmono : ∀ a b, a ≤ b → N a ≤ N b := by
      intro a b hab
      induction b with
      | zero => have : a = 0 := by omega
                subst this; exact Nat.le_refl _
      | succ b ih => rcases Nat.lt_or_ge a (b + 1) with h | h
                     · exact Nat.le_trans (ih (by omega)) (by rw [hs]; omega)
                     · have : a = b + 1 := by omega
                       subst this; exact Nat.le_refl _
    rw [List.range_succ, List.flatMap_append]
    by_cases e : k = m
    · subst e
      rw [List.getElem?_append_right (by rw [hlen]; omega), hlen, Nat.add_sub_cancel_left]; simp
    · have := hmono (k + 1) m (by omega)
      rw [hs] at this
      rw [List.getElem?_append_left (by rw [hlen]; omega)]
      exact flat_at f N h0 hs m k j (by omega) hj
theorem flat_len {α : Type} (f : Nat → List α) (N : Nat → Nat) (h0 : N 0 = 0) (hs : ∀ k, N (k + 1) = N k + (f k).length) : ∀ m, ((List.range m).flatMap f).length = N m
  | 0 => by simp [h0]
  | m + 1 => by rw [List.range_succ, List.flatMap_append, List.length_append, flat_len f N h0 hs m, hs]; simp
theorem patN_end (p : Tp) (os : Nat → To) (no d : Nat) (xs : List Int) : patN p os no d xs (p.webs.toNat + 1) = (patL p os no (d + 1) xs).length := (flat_len (fun k : Nat => patL p os no d (xs ++ [(k : Int)])) (patN p os no d xs) rfl (fun _ => rfl) _).symm
theorem patL_at (p : Tp) (os : Nat → To) (no d : Nat) (xs : List Int) {k j : Nat} (hk : k < p.webs.toNat + 1) (hj : j < (patL p os no d (xs ++ [(k : Int)])).length) : (patL p os no (d + 1) xs).getD (patN p os no d xs k + j) [] = (patL p os no d (xs ++ [(k : Int)])).getD j [] := by
  rw [List.getD_eq_getElem?_getD, List.getD_eq_getElem?_getD]
  exact congrArg (·.getD []) (flat_at (fun k : Nat => patL p os no d (xs ++ [(k : Int)])) (patN p os no d xs) rfl (fun _ => rfl) _ _ _ hk hj)
theorem patN_le (p : Tp) (os : Nat → To) (no d : Nat) (xs : List Int) {k : Nat} (hk : k < p.webs.toNat + 1) : patN p os no d xs k + (patL p os no d (xs ++ [(k : Int)])).length ≤ (patL p os no (d + 1) xs).length := by
  rw [← patN_end]
  have : ∀ a b, a ≤ b → patN p os no d xs a ≤ patN p os no d xs b := by
    intro a b hab
    induction b with
    | zero => have : a = 0 := by omega
              subst this; exact Nat.le_refl _
    | succ b ih => rcases Nat.lt_or_ge a (b + 1) with h | h
                   · exact Nat.le_trans (ih (by omega)) (by rw [patN]; omega)
                   · have : a = b + 1 := by omega
                     subst this; exact Nat.le_refl _
  exact this (k + 1) _ (by omega)
set_option maxRecDepth 100000 in
set_option maxHeartbeats 400000 in
theorem clipI_any (a : Option Addr) (n c : Nat) (w : World) (ha : AdOk a n) (hnc : n ≤ c) :
  Calls Try.prog 65 #[.slice (a) (n) (c)] w (fun e w' => e = .returned (.slice a n n) ∧ Below w.heap.size w w') := by
 refine calls_fr Try.func65 Try.ntmps65 rfl rfl fun g hg => ?_
 have k0 : g 0 = .slice (a) (n) (c) := hg 0
 clear hg
 have fB0 : Below w.heap.size w w := Below.refl _ _
 refine wp_seq_k fun K1 hK1 => ?_
 refine region_dk 1 [(2, 0)] [[]] (rel [is (.slice (none) (0) (0))])
  ⟨is_k, trivial⟩
  ⟨fun f s W d h i j l b => opv rfl rfl (by simp [go_sem]) rfl, trivial⟩ ?_
 intro f1 s1 W1 hB1 g1 hg1
 have fB1 := hB1.f fB0
 have z1 := hB1.below.size
 refine hK1 _ _ ?_
 have k1_0 := kt hg1 0 k0
 have k1_2 := kt hg1 2 (hB1.is 0)
 refine wp_seq_k fun K2 hK2 => ?_
 refine region_dk 7 [(3, 0), (4, 1), (5, 2), (6, 3), (7, 4), (8, 5), (2, 6)] [[], [], [1], [], [3], [0, 1, 2, 3, 4], [0, 1, 2, 3, 4, 5]] (rel [is (.slice (a) (n) (c)),
   is (.slice (a) (n) (c)),
   is (.int .i64 ((n : Int))),
   is (.slice (a) (n) (c)),
   is (.int .i64 ((n : Int))),
   is (.slice (a) (n) (n)),
   is (.slice (a) (n) (n))])
  ⟨is_k, is_k, is_k, is_k, is_k, is_k, is_k, trivial⟩
  ⟨fun f s W d h i j l b => opv rfl rfl (by simp [go_sem, b.e 0 k1_0]) rfl,
  fun f s W d h i j l b => opv rfl rfl (by simp [go_sem, b.e 0 k1_0]) rfl,
  fun f s W d h i j l b => opv rfl rfl (by simp [go_sem, b.e 4 (h 1 rfl)]) rfl,
  fun f s W d h i j l b => opv rfl rfl (by simp [go_sem, b.e 0 k1_0]) rfl,
  fun f s W d h i j l b => opv rfl rfl (by simp [go_sem, b.e 6 (h 3 rfl)]) rfl,
  fun f s W d h i j l b => by have h0_ : ∀ k : Nat, (if n = 0 then a else Option.map (fun x : Addr => x.add (0 * k)) a) = a := fun k => AdOk.clip ha; exact opv rfl rfl (by simp [go_sem, b.e 3 (h 0 rfl), b.e 5 (h 2 rfl), b.e 7 (h 4 rfl), h0_, hnc]) rfl,
  fun f s W d h i j l b => opv rfl rfl (by simp [go_sem, b.e 8 (h 5 rfl)]) rfl, trivial⟩ ?_
 intro f2 s2 W2 hB2 g2 hg2
 have fB2 := hB2.f fB1
 have z2 := hB2.below.size
 refine hK2 _ _ ?_
 have k2_2 := kt hg2 2 (hB2.is 6)
 refine wp_ret ?_
 refine leave_one (N := 9) (v := .slice (a) (n) (n)) (.inr rfl) Try.results65 rfl k2_2 ?_
 exact ⟨rfl, fB2⟩
/-- The iterator over the patterns that begin with some webs: a function value with two boxes. -/
def PtV (B : Nat) (p : Tp) (bo oo no co : Nat) (ax : Option Addr) (nx cx : Nat) (v : Value) (W : World) : Prop := ∃ bw bm, v = .func (.func 63) #[] #[.pointer (some ⟨bw, 0, none⟩), .pointer (some ⟨bm, 0, none⟩)] ∧ W.heap[bw]? = some (.cells #[.slice ax nx cx] 29 (0, 0)) ∧ W.heap[bm]? = some (.cells #[.int .i64 p.wide, .int .i64 p.tlo, .int .i64 p.thi, .int .i64 p.webs, .slice (some ⟨bo, oo, none⟩) (no) (co)] 87 (0, 0)) ∧ B ≤ bw ∧ B ≤ bm
theorem PtV.below {B : Nat} {p : Tp} {bo oo no co : Nat} {ax : Option Addr} {nx cx : Nat} {v : Value} {W W' : World} (h : PtV B p bo oo no co ax nx cx v W) (hb : Below W.heap.size W W') : PtV B p bo oo no co ax nx cx v W' := by
  obtain ⟨bw, bm, e, h1, h2, h3⟩ := h; exact ⟨bw, bm, e, blk_below h1 hb, blk_below h2 hb, h3⟩
set_option maxRecDepth 100000 in
set_option maxHeartbeats 400000 in
theorem patterns_fn (p : Tp) (bo oo no co : Nat) (ax : Option Addr) (nx cx : Nat) (w : World) :
  Calls Try.prog 46 #[.agg #[.int .i64 p.wide, .int .i64 p.tlo, .int .i64 p.thi, .int .i64 p.webs, .slice (some ⟨bo, oo, none⟩) (no) (co)], .slice (ax) (nx) (cx)] w (fun e w' => ∃ v, e = .returned v ∧ PtV w.heap.size p bo oo no co ax nx cx v w' ∧ Below w.heap.size w w') := by
 refine calls_fr Try.func46 Try.ntmps46 rfl rfl fun g hg => ?_
 have k0 : g 0 = .agg #[.int .i64 p.wide, .int .i64 p.tlo, .int .i64 p.thi, .int .i64 p.webs, .slice (some ⟨bo, oo, none⟩) (no) (co)] := hg 0
 have k1 : g 1 = .slice (ax) (nx) (cx) := hg 1
 clear hg
 have fB0 : Below w.heap.size w w := Below.refl _ _
 refine wp_seq_k fun K1 hK1 => ?_
 refine region_dk 3 [(2, 0), (3, 1), (4, 2)] [[], [], []] (rel [bx 0 #[.int .i64 p.wide, .int .i64 p.tlo, .int .i64 p.thi, .int .i64 p.webs, .slice (some ⟨bo, oo, none⟩) (no) (co)] 87,
   bx 1 #[.slice (ax) (nx) (cx)] 29,
   is (.nilFunc)])
  ⟨bx_k, bx_k, is_k, trivial⟩
  ⟨fun f s W c d h i j a => opb rfl rfl (by simp [go_sem, a.e 0 k0]),
  fun f s W c d h i j a => opb rfl rfl (by simp [go_sem, a.e 1 k1]),
  fun f s W c d h i j a => opv rfl rfl (by simp [go_sem]) rfl, trivial⟩ ?_
 intro f1 s1 W1 hB1 g1 hg1
 have fB1 := hB1.f fB0
 have z1 := hB1.below.size
 obtain ⟨r1_0, br1_0⟩ := hB1.is 0
 have lr1_0 := hB1.lr 0 br1_0
 obtain ⟨r1_1, br1_1⟩ := hB1.is 1
 have lr1_1 := hB1.lr 1 br1_1
 have ne1_0_1 := hB1.nb 0 1
 refine hK1 _ _ ?_
 have k1_2 := kt hg1 2 r1_0
 have k1_3 := kt hg1 3 r1_1
 have k1_4 := kt hg1 4 (hB1.is 2)
 refine wp_seq_k fun K2 hK2 => ?_
 refine region_dk 2 [(5, 0), (4, 1)] [[], [0]] (rel [is (.func (.func 63) #[] #[.pointer (some ⟨(s1 1), 0, none⟩), .pointer (some ⟨(s1 0), 0, none⟩)]),
   is (.func (.func 63) #[] #[.pointer (some ⟨(s1 1), 0, none⟩), .pointer (some ⟨(s1 0), 0, none⟩)])])
  ⟨is_k, is_k, trivial⟩
  ⟨fun f s W c d h i j a => opv rfl rfl (by simp [go_sem, a.e 3 k1_3, a.e 2 k1_2]) rfl,
  fun f s W c d h i j a => opv rfl rfl (by simp [go_sem, a.e 5 (d 0 rfl)]) rfl, trivial⟩ ?_
 intro f2 s2 W2 hB2 g2 hg2
 have fB2 := hB2.f fB1
 have z2 := hB2.below.size
 have b2_0 := hB2.b br1_0
 have b2_1 := hB2.b br1_1
 refine hK2 _ _ ?_
 have k2_4 := kt hg2 4 (hB2.is 1)
 refine wp_ret ?_
 refine leave_one (N := 6) (v := .func (.func 63) #[] #[.pointer (some ⟨(s1 1), 0, none⟩), .pointer (some ⟨(s1 0), 0, none⟩)]) (.inr rfl) Try.results46 rfl k2_4 ?_
 exact ⟨_, rfl, ⟨_, _, rfl, b2_1, b2_0, (by omega), (by omega)⟩, fB2⟩
end Go.Proofs.Ytnhipdbdolabkaa
namespace Go.Proofs.Ytnhipdbdolabkaa
open Go.RowKit
theorem clone_own (ax : Option Addr) (nx cx : Nat) (xs : List Int) (w : World) (hX : Ii w ax nx cx xs) (gn : 1 ≤ nx ∧ nx ≤ 1000) : Calls Try.prog 55 #[.slice ax nx cx] w (fun e w' => ∃ v, e = .returned v ∧ OwI w.heap.size xs nx v w' ∧ Below w.heap.size w w') := by
  have hn : nx = xs.length := hX.1
  obtain ⟨b, o, rfl, hlt, hc⟩ := hX.at (by omega)
  refine (Try.slices_Clone_int b o nx cx xs w (by omega) (by omega) hc).mono fun e w' hp => ?_
  obtain ⟨v, e1, h2, -, h4⟩ := hp
  obtain ⟨g2, cap2, rfl⟩ := Joins.ownsRow_form h2 (by omega)
  refine ⟨_, e1, ⟨g2, cap2, rfl, own_ge h2 g2 rfl, own_lt' h2, ?_⟩, h4⟩
  subst hn
  rw [List.take_length] at h2
  exact h2
end Go.Proofs.Ytnhipdbdolabkaa
