/- Part of the proof: what the claim leans on. -/
import Derived.RangeFuncNested
import Derived.RangeFuncBound
import Derived.RangeFuncCalls
import Derived.RangeFuncLeaves
import Derived.Shelf.Abstract
import Derived.Shelf.RegionOpen
import Derived.WalkKit
import Derived.OwnWalkIn
import Derived.TacticsInMore
import Derived.LoopNIn
import Derived.LoopIn
import Derived.Test.YtcgccflcjejlhaaDAA
import Derived.Test.YtcgccflcjejlhaaDAB
import Derived.Test.YtcgccflcjejlhaaDAC
import Derived.Test.YtcgccflcjejlhaaDAD
set_option linter.unusedSimpArgs false
set_option linter.unusedVariables false
namespace Go.Proofs.Ytcgccflcjejlhaa
open Go.RowKit Go.Shelf
/-- All but one block is kept. -/
structure KeepX (bn : Nat) (W W' : World) : Prop where
  os : W'.os = W.os
  tape : W'.tape = W.tape
  output : W'.output = W.output
  size : W.heap.size ≤ W'.heap.size
  block : ∀ k o, k ≠ bn → W.heap[k]? = some o → W'.heap[k]? = some o
theorem KeepX.refl (bn : Nat) (W : World) : KeepX bn W W := ⟨rfl, rfl, rfl, Nat.le_refl _, fun _ _ _ h => h⟩
theorem KeepX.trans {bn : Nat} {A B C : World} (h : KeepX bn A B) (k : KeepX bn B C) : KeepX bn A C :=
  ⟨k.os.trans h.os, k.tape.trans h.tape, k.output.trans h.output, Nat.le_trans h.size k.size, fun i o hi hx => k.block i o hi (h.block i o hi hx)⟩
theorem KeepX.of_below {bn : Nat} {A B : World} (h : Below A.heap.size A B) : KeepX bn A B :=
  ⟨h.os, h.tape, h.output, h.size, fun i o _ hx => (h.block i (Array.getElem?_eq_some_iff.1 hx).1).trans hx⟩
theorem KeepX.below {bn B : Nat} {A C : World} (h : KeepX bn A C) (hb : B ≤ bn) (hB : B ≤ A.heap.size) : Below B A C :=
  ⟨h.os, h.tape, h.output, h.size, fun k hk => by
    have hx : A.heap[k]? = some A.heap[k] := Array.getElem?_eq_getElem (by omega)
    rw [hx]; exact h.block k _ (by omega) hx⟩
theorem putObj_size (W : World) (l : Nat) (o : Obj) : (W.putObj l o).heap.size = W.heap.size := by simp [World.putObj]
end Go.Proofs.Ytcgccflcjejlhaa
namespace Go.Proofs.Ytcgccflcjejlhaa
open Go.RowKit Go.Shelf
/-- All blocks but those of S are kept. -/
structure KeepP (S : Nat → Prop) (W W' : World) : Prop where
  os : W'.os = W.os
  tape : W'.tape = W.tape
  output : W'.output = W.output
  size : W.heap.size ≤ W'.heap.size
  block : ∀ k o, ¬ S k → W.heap[k]? = some o → W'.heap[k]? = some o
theorem KeepP.refl (S : Nat → Prop) (W : World) : KeepP S W W := ⟨rfl, rfl, rfl, Nat.le_refl _, fun _ _ _ h => h⟩
theorem KeepP.trans {S : Nat → Prop} {A B C : World} (h : KeepP S A B) (k : KeepP S B C) : KeepP S A C :=
  ⟨k.os.trans h.os, k.tape.trans h.tape, k.output.trans h.output, Nat.le_trans h.size k.size, fun i o hi hx => k.block i o hi (h.block i o hi hx)⟩
theorem KeepP.of_below {S : Nat → Prop} {A B : World} (h : Below A.heap.size A B) : KeepP S A B :=
  ⟨h.os, h.tape, h.output, h.size, fun i o _ hx => (h.block i (Array.getElem?_eq_some_iff.1 hx).1).trans hx⟩
theorem KeepP.below {S : Nat → Prop} {B : Nat} {A C : World} (h : KeepP S A C) (hb : ∀ k, S k → B ≤ k) (hB : B ≤ A.heap.size) : Below B A C :=
  ⟨h.os, h.tape, h.output, h.size, fun k hk => by
    have hx : A.heap[k]? = some A.heap[k] := Array.getElem?_eq_getElem (by omega)
    rw [hx]; exact h.block k _ (fun hs => by have := hb k hs; omega) hx⟩
theorem KeepP.more {S S' : Nat → Prop} {A B : World} (h : KeepP S A B) (hs : ∀ k, S k → S' k) : KeepP S' A B :=
  ⟨h.os, h.tape, h.output, h.size, fun k o hk hx => h.block k o (fun e => hk (hs k e)) hx⟩
end Go.Proofs.Ytcgccflcjejlhaa
namespace Go.Proofs.Ytcgccflcjejlhaa
open Go.RowKit Go.Shelf
theorem calls_frM {P : Program} {f : FuncId} {fn : Func} {c : Code} {args : Array Value} {w : World} {R : Ending → World → Prop} {N n : Nat} (hf : P.funcs[f]? = some fn) (hN : fn.ntmps = N) (hb : fn.body = some c) (a : decide (args.size ≤ N) = true)
    (h : ∀ g : Nat → Value, (∀ i, g i = args.getD i undef) → c.wp P (bodyPostM Fence.wide n P fn R) (fr N g) w) : Calls P f args w R := by
  subst hN
  refine (callsIn_wide (n := n)).1 (callsIn_of_wp_marks hf hb trivial (wpIn_wide.2 ?_) rfl)
  have := h (fun i => args.getD i undef) fun _ => rfl
  have hs' := of_decide_eq_true a
  have e : fr fn.ntmps (fun i => args.getD i undef) = { tmps := args ++ Array.replicate (fn.ntmps - args.size) undef, defers := [] } := by
    simp only [fr, Act.mk.injEq, and_true]
    apply Array.ext
    · simp; omega
    · intro i h1 h2
      simp only [List.getElem_toArray, List.getElem_map, List.getElem_range]
      by_cases hi : i < args.size
      · rw [Array.getElem_append_left hi]; simp [hi]
      · rw [Array.getElem_append_right (by omega)]; simp [hi]
  rw [← e]; exact this
/-- Leaving it: the mark is taken, and there is no deferred call behind it. -/
theorem leave_mark {P : Program} {fn : Func} {R : Ending → World → Prop} {tmps : Array Value} {W : World} {D n : Nat} {v : Value} {e : Exit} {a : Act} (he : e = .normal ∨ e = .ret) (ha : a.tmps = tmps) (hd : a.defers = [{ target := .collected D, args := #[] }]) (hD : W.heap[D]? = some (.deferred (some [])))
    (hr : ∀ W', (results fn tmps).run P W' = .ok v W') (h : R (.returned v) (W.putObj D (.deferred none))) : bodyPostM Fence.wide n P fn R e a W := by
  have key : LeavesInM Fence.wide n P fn a.tmps R a.defers .returning W := by
    rw [hd, ha]
    exact ⟨by simp, .inl ⟨D, _, rfl, run_takeDeferred hD, v, hr _, h⟩⟩
  rcases he with rfl | rfl
  · exact key
  · exact key
/-- The same, where one result lies in a cell. -/
theorem leave_markc {P : Program} {fn : Func} {R : Ending → World → Prop} {tmps : Array Value} {W : World} {D n : Nat} {v : Value} {e : Exit} {a : Act} (he : e = .normal ∨ e = .ret) (ha : a.tmps = tmps) (hd : a.defers = [{ target := .collected D, args := #[] }]) (hD : W.heap[D]? = some (.deferred (some [])))
    (hr : (results fn tmps).run P (W.putObj D (.deferred none)) = .ok v (W.putObj D (.deferred none))) (h : R (.returned v) (W.putObj D (.deferred none))) : bodyPostM Fence.wide n P fn R e a W := by
  have key : LeavesInM Fence.wide n P fn a.tmps R a.defers .returning W := by
    rw [hd, ha]
    exact ⟨by simp, .inl ⟨D, _, rfl, run_takeDeferred hD, v, hr, h⟩⟩
  rcases he with rfl | rfl
  · exact key
  · exact key
theorem below_put {B : Nat} {W : World} {l : Nat} {o : Obj} (h : B ≤ l) : Below B W (W.putObj l o) :=
  ⟨rfl, rfl, rfl, by rw [putObj_size]; exact Nat.le_refl _, fun k hk => World.putObj_heap_other (by omega)⟩
/-- A frame with deferred calls. -/
def frD (ds : List Deferred) (N : Nat) (g : Nat → Value) : Act := { tmps := (fr N g).tmps, defers := ds }
theorem frD_evv {ds : List Deferred} {N : Nat} {g : Nat → Value} {t : Nat} {v : Value} (hv : g t = v) (ht : decide (t < N) = true := by rfl) : (frD ds N g).tmps[t]?.getD undef = v := frv N hv ht
end Go.Proofs.Ytcgccflcjejlhaa
namespace Go.Proofs.Ytcgccflcjejlhaa
open Go.RowKit Go.Shelf
section
variable {P : Program} {ops : Array Oper} {Q : Exit → Act → World → Prop} {l n : Nat}
end
section
variable {P : Program} {ops : Array Oper} {Q : Exit → Act → World → Prop} {Le : World → World → Prop} {R : Nat → Value → (Nat → Nat) → World → Prop} {mk : (Nat → Value) → Act} {l m : Nat}
end
section
variable {P : Program} {ops : Array Oper} {Q : Exit → Act → World → Prop}
end
end Go.Proofs.Ytcgccflcjejlhaa
namespace Go.Proofs.Ytcgccflcjejlhaa
open Go.RowKit Go.Shelf
/-- What a yield leaves: the next state, all blocks but its own kept, no older block become its own. -/
def YldG (J : Nat → (Nat → Prop) → World → Prop) (i : Nat) (G : Nat → Prop) (W : World) (e : Ending) (W' : World) : Prop :=
  e = .returned (.bool true) ∧ ∃ G', J (i + 1) G' W' ∧ KeepP G W W' ∧ ∀ b, G' b → G b ∨ W.heap.size ≤ b
/-- J depends on nothing but blocks before B, its own ones, and those that hold cells. -/
def NoCells (W : World) (b : Nat) : Prop := ∀ cs T m, W.heap[b]? ≠ some (.cells cs T m)
theorem noCells_of {W : World} {b : Nat} {o : Obj} (h : W.heap[b]? = some o) (hn : ∀ cs T m, o ≠ .cells cs T m) : NoCells W b := fun cs T m e => by rw [h] at e; exact hn cs T m (Option.some.inj e)
def StabG (J : Nat → (Nat → Prop) → World → Prop) (B : Nat) : Prop := ∀ i G W W', J i G W → KeepP (fun b => B ≤ b ∧ ¬ G b ∧ NoCells W b) W W' → J i G W'
theorem StabG.below {J : Nat → (Nat → Prop) → World → Prop} {B i : Nat} {G : Nat → Prop} {W W' : World} (h : StabG J B) (hj : J i G W) (hb : Below W.heap.size W W') : J i G W' := h i G W W' hj (KeepP.of_below hb)
theorem keepP_put {B l : Nat} {G : Nat → Prop} {W : World} {o : Obj} {r : Loop} (hl : B ≤ l) (hg : ¬ G l) (hr : W.heap[l]? = some (.loop r)) : KeepP (fun b => B ≤ b ∧ ¬ G b ∧ NoCells W b) W (W.putObj l o) :=
  ⟨rfl, rfl, rfl, by rw [putObj_size]; exact Nat.le_refl _, fun k x hk hx => (World.putObj_heap_other (fun e => hk (by subst e; exact ⟨hl, hg, noCells_of hr (fun _ _ _ h => nomatch h)⟩))).trans hx⟩
theorem yieldAt_fuel {m m' : Nat} {P : Program} {l : Nat} {args : Array Value} {W : World} {R : Ending → World → Prop} (h : YieldAt Fence.wide m P l args W R) : YieldAt Fence.wide m' P l args W R := by
  obtain ⟨fn, tmps, assign, body, h1, h2, h3⟩ := h
  exact ⟨fn, tmps, assign, body, h1, h2, fun c cs _ => h3 c cs (room_wide _)⟩
/-- Marks of ranges over functions. -/
def mkD (D : Nat) : Deferred := { target := .collected D, args := #[] }
def MarksOk (W : World) (Ds : List Nat) : Prop := Ds.Pairwise (· ≠ ·) ∧ ∀ D ∈ Ds, W.heap[D]? = some (.deferred (some []))
theorem leaves_marks {P : Program} {fn : Func} {tmps : Array Value} {n : Nat} {v : Value} {R : Ending → World → Prop} (hr : ∀ W', (results fn tmps).run P W' = .ok v W') : ∀ (Ds : List Nat) (W : World), MarksOk W Ds → (∀ W', KeepP (fun b => b ∈ Ds) W W' → R (.returned v) W') → LeavesInM Fence.wide n P fn tmps R (Ds.map mkD) .returning W
  | [], W, _, h => ⟨v, hr W, h W (KeepP.refl _ _)⟩
  | D :: Ds, W, hm, h => by
    have hD := hm.2 D (by simp)
    refine ⟨by simp, .inl ⟨D, _, rfl, run_takeDeferred hD, ?_⟩⟩
    have hp := List.pairwise_cons.1 hm.1
    refine leaves_marks hr Ds _ ⟨hp.2, fun E hE => ?_⟩ fun W' hk => h W' ?_
    · exact (World.putObj_heap_other (fun e => hp.1 E hE e.symm)).trans (hm.2 E (List.mem_cons_of_mem _ hE))
    · refine KeepP.trans (B := W.putObj D (.deferred none)) ⟨rfl, rfl, rfl, by rw [putObj_size]; exact Nat.le_refl _, fun k x hk hx => (World.putObj_heap_other (fun e => hk (by simp [e]))).trans hx⟩ (hk.more fun k hk => List.mem_cons_of_mem _ hk)
theorem leave_marks {P : Program} {fn : Func} {tmps : Array Value} {W : World} {n : Nat} {v : Value} {R : Ending → World → Prop} {e : Exit} {a : Act} {Ds : List Nat} (he : e = .normal ∨ e = .ret) (ha : a.tmps = tmps) (hd : a.defers = Ds.map mkD) (hD : MarksOk W Ds)
    (hr : ∀ W', (results fn tmps).run P W' = .ok v W') (h : ∀ W', KeepP (fun b => b ∈ Ds) W W' → R (.returned v) W') : bodyPostM Fence.wide n P fn R e a W := by
  have key : LeavesInM Fence.wide n P fn a.tmps R a.defers .returning W := by
    rw [hd, ha]; exact leaves_marks hr Ds W hD h
  rcases he with rfl | rfl
  · exact key
  · exact key
theorem MarksOk.keep {W W' : World} {S : Nat → Prop} {Ds : List Nat} (h : MarksOk W Ds) (hk : KeepP S W W') (hn : ∀ D ∈ Ds, ¬ S D) : MarksOk W' Ds := ⟨h.1, fun D hD => hk.block _ _ (hn D hD) (h.2 D hD)⟩
/-- A region where deferred calls are kept. -/
theorem holds_frD (ops : Array Oper) (ds : List Deferred) (N : Nat) (al : List (Nat × Nat)) (f g : Nat → Value) : Holds' ops N (ov al f g) (frD ds N (ov al f g)) :=
  ⟨(holds_fr ops N al f g).at', (holds_fr ops N al f g).ev, (holds_fr ops N al f g).says⟩
section
variable {P : Program} {ops : Array Oper} {Q : Exit → Act → World → Prop}
theorem region_doD {id : Nat} {draw : Bool} {N : Nat} {dl : List Deferred} {g : Nat → Value} {w : World} (n : Nat) (al : List (Nat × Nat)) (ds : List (List Nat)) (R : Nat → Value → (Nat → Nat) → World → Prop)
    (hm : P.follows .mixedOrders = true) (hal : okSlots ops al = true) (hok : okWaits ops ds (if draw then n else ops.size) = true) (hn : decide (n ≤ ops.size) = true) (hst : Stays R ds 0 n) (steps : OpsDo P ops Q N al g R w ds 0 n)
    (fin : ∀ f s W, Behind R w n f s W → wpOps P ops Q (List.range' n (ops.size - n)) (frD dl N (ov al f g)) W) :
    (Code.region id ops draw).wp P Q (frD dl N g) w := by
  obtain ⟨f0, hf0, hf1⟩ := ov_start (g := g) hal
  have h := wp_region_adds (P := P) (Q := Q) (id := id) (draw := draw) (w := w) (Le := fun a b => Below a.heap.size a b) (R := fun i v s W => i < n → R i v s W) (mk := fun f => frD dl N (ov al f g)) n ds f0 hm hok hn
    (fun a => Below.refl _ _) (fun a => (Below.refl _ _).drew) (fun a b c => below_trans) (fun a b h => h.size)
    (fun i v k W W' hle h hi => by have := (stays_at n 0 hst i hi).1 v k W W' hle; rw [Nat.zero_add] at this; exact this (h hi))
    (fun i v s s' W he h hi => by have := (stays_at n 0 hst i hi).2 v s s' W; rw [Nat.zero_add] at this; exact this he (h hi))
    ?_ ?_
  · simp only [hf0] at h; exact h
  · have key : ∀ m i, i + m = n → AddSteps P ops Q (fun a b => Below a.heap.size a b) (fun i v k W => i < n → R i v k W) (fun f => frD dl N (ov al f g)) w f0 ds i m := by
      intro m
      induction m with
      | zero => intro i _; exact True.intro
      | succ m ih =>
        intro i him
        refine ⟨fun f s W hle hd hlate K hK => ?_, ih (i + 1) (by omega)⟩
        have hsz : i < ops.size := by have := of_decide_eq_true hn; omega
        have ho := Array.getElem?_eq_getElem hsz
        have hdo := opsDo_at n 0 steps i (by omega) f s W hle
        rw [Nat.zero_add] at hdo
        have hdd : ∀ k, (ds.getD i []).contains k = true → R k (f k) s W ∧ w.heap.size ≤ s k := fun k hk => by
          have hk' : k ∈ ds.getD i [] := by simpa using hk
          have hlt := ((okWaits_at hok ho).1 k hk').1
          have := allIn_mem hd k hk'
          exact ⟨this.1 (by omega), this.2⟩
        refine hdo (fun k hk => (hdd k hk).1) (fun k hk => (hdd k hk).2) (fun p d hp hd' => (hlate p (by simpa using hp)).trans (hf1 (d, p) (by simpa using hd'))) _ (holds_frD _ _ _ _ _ _) K fun v W' hb hR => ?_
        have := hK v W' hb fun _ => hR
        rw [ho]
        simp only [Option.bind_some]
        have e := okSlots_at hal ho N f g v
        have e' : (frD dl N (ov al f g)).put ops[i].dst v = frD dl N (ov al (upd f i v) g) := by
          have e2 := congrArg (fun a : Act => ({ tmps := a.tmps, defers := dl } : Act)) e
          cases hx : ops[i].dst <;> (rw [hx] at e2; exact e2)
        rw [e']
        exact this
    exact key n 0 (by omega)
  · rintro f s t W ⟨h1, h2, h3⟩
    exact fin f s W ⟨h1, fun i hi => (h2 i hi).1 hi, fun i hi => (h2 i hi).2.1, t, fun i hi => ⟨(h2 i hi).2.2.1, (h2 i hi).2.2.2.1, (h2 i hi).2.2.2.2.imp fun _ h => ⟨h.1 hi, h.2⟩⟩, fun i j hi hj => h3 i j hi hj⟩
end
end Go.Proofs.Ytcgccflcjejlhaa
namespace Go.Proofs.Ytcgccflcjejlhaa
open Go.RowKit Go.Shelf
/-- J depends on nothing but blocks before B that are not among X, and its own ones. -/
def StabX (X : Nat → Prop) (J : Nat → (Nat → Prop) → World → Prop) (B : Nat) : Prop := ∀ i G W W', J i G W → KeepP (fun b => X b ∨ (B ≤ b ∧ ¬ G b)) W W' → J i G W'
theorem StabX.below {X : Nat → Prop} {J : Nat → (Nat → Prop) → World → Prop} {B i : Nat} {G : Nat → Prop} {W W' : World} (h : StabX X J B) (hj : J i G W) (hb : Below W.heap.size W W') : J i G W' := h i G W W' hj (KeepP.of_below hb)
theorem keepPX_put {X : Nat → Prop} {B l : Nat} {G : Nat → Prop} {W : World} {o : Obj} {r : Loop} (hl : B ≤ l) (hg : ¬ G l) (hr : W.heap[l]? = some (.loop r)) : KeepP (fun b => X b ∨ (B ≤ b ∧ ¬ G b)) W (W.putObj l o) :=
  (keepP_put hl hg hr).more fun _ h => .inr ⟨h.1, h.2.1⟩
set_option maxHeartbeats 4000000 in
theorem range_gx {n : Nat} {P : Program} {g : Operand} {ps : Array Tmp} {assign body : Code} {Q : Exit → Act → World → Prop} {a : Act} {w : World} {gf : Nat} {rcv lb : Array Value}
    (hg : a.eval g = .func (.func gf) rcv lb) (eg : ∀ args w, (callFunc gf args).run P w = .ok (.enter gf args) w) (m : Nat) (E : Nat → (Nat → Prop) → Array Value → World → Prop) (hps : ∀ i G v W, E i G v W → v.size = ps.size)
    (I : Nat → (Nat → Prop) → World → Prop) (X : Nat → Prop) (hX : ∀ b, X b → b < w.heap.size) (hI : StabX X I w.heap.size) (G0 : Nat → Prop) (hG0 : ∀ b, G0 b → b < w.heap.size)
    (hit : ∀ (l : Nat) (W1 : World) (J : Nat → (Nat → Prop) → World → Prop), w.heap.size ≤ l → l < W1.heap.size → Below w.heap.size w W1 → StabX X J W1.heap.size → (∀ i G W, J i G W → I i G W) →
      (∀ i G W v, i < m → J i G W → W1.heap.size ≤ W.heap.size → E i G v W → YieldAt Fence.wide (n - 1 - 1) P l v W (YldG J i G W)) → J 0 G0 W1 →
      CallsIn Fence.wide (n - 1) P gf (rcv ++ #[.func (.yield l) #[] #[]] ++ lb) W1 fun e W' => (∃ v, e = .returned v) ∧ ∃ G, J m G W')
    (h0 : I 0 G0 w) (A : Nat → (Nat → Prop) → Act → World → Prop) (hAp : ∀ i G a' W r o, W.heap[w.heap.size + 1]? = some (.loop r) → A i G a' W → A i G a' (W.putObj (w.heap.size + 1) o))
    (hassign : ∀ (l i : Nat) (G : Nat → Prop) (W : World) (v : Array Value) (K : Act → World → Prop), i < m → I i G W → w.heap.size + 1 < W.heap.size → E i G v W → (∀ a' W', Below W.heap.size W W' → A i G a' W' → K a' W') → assign.wpIn (Fence.wide.inRound l) (n - 1 - 1) P (Exit.then K fun _ _ _ => False) { tmps := (ps.zip v).foldl (fun t (p, v) => t.setIfInBounds p v) a.tmps, defers := [] } W)
    (hbody : ∀ (l i : Nat) (G : Nat → Prop) (a' : Act) (W : World), i < m → I i G W → A i G a' W → body.wpIn (Fence.wide.inRound l) (n - 1 - 1) P (fun e _ W' => e = .normal ∧ ∃ G', I (i + 1) G' W' ∧ KeepP G W W' ∧ ∀ b, G' b → G b ∨ W.heap.size ≤ b) a' W)
    (hdone : ∀ (D : Nat) (G : Nat → Prop) (W : World), w.heap.size ≤ D → ¬ G D → I m G W → W.heap[D]? = some (.deferred (some [])) → Q .normal { a with defers := { target := .collected D, args := #[] } :: a.defers } W) :
    (Code.rangeFunc g ps assign body).wpIn Fence.wide n P Q a w := by
  refine wpIn_rangeFunc fun fn _ => ?_
  obtain ⟨rc, hrc⟩ : ∃ rc : LoopState → Option Code → Loop, ∀ st pe, rc st pe = { state := st, pending := pe, fn, tmps := a.tmps, params := ps, assign, body, defers := w.heap.size } := ⟨_, fun _ _ => rfl⟩
  obtain ⟨V, hV⟩ : ∃ V, (w.alloc (.deferred (some []))).alloc (.loop (rc .ready none)) = V := ⟨_, rfl⟩
  have hbV : Below w.heap.size w V := hV ▸ ((Below.refl _ w).alloc (Nat.le_refl _) _).alloc (by simp) _
  have hL : V.heap[w.heap.size + 1]? = some (.loop (rc .ready none)) := by
    rw [← hV]; have := World.alloc_heap_new (w.alloc (.deferred (some []))) (.loop (rc .ready none)); rwa [World.size_alloc] at this
  have hD : V.heap[w.heap.size]? = some (.deferred (some [])) := by
    rw [← hV]; exact (Below.heap_alloc _ _ _ (by simp)).trans (World.alloc_heap_new w _)
  have hlV := (Array.getElem?_eq_some_iff.1 hL).1
  refine ⟨w.heap.size + 1, [{ target := .collected w.heap.size, args := #[] }], V, { target := .fn (.func gf) lb, args := rcv ++ #[.func (.yield (w.heap.size + 1)) #[] #[]] }, V, gf, rcv ++ #[.func (.yield (w.heap.size + 1)) #[] #[]] ++ lb, V, ?_, ?_, fun _ _ => trivial, ?_, fun h => by simp [Fence.wide] at h, ?_⟩
  · rw [← hV, hrc]; exact run_enterLoop_outer _ _ _ _ _
  · simp only [resolve, hg]
    simp [go_sem]
  · simp [invoke, go_sem, eg]
  · have keep : ∀ {A B : World} {k : Nat} {o : Obj}, A.heap[k]? = some o → Below A.heap.size A B → B.heap[k]? = some o := fun hx hb => (hb.block _ (Array.getElem?_eq_some_iff.1 hx).1).trans hx
    refine (hit (w.heap.size + 1) V (fun i G W => I i G W ∧ W.heap[w.heap.size + 1]? = some (.loop (rc .ready none)) ∧ W.heap[w.heap.size]? = some (.deferred (some [])) ∧ ¬ G (w.heap.size + 1) ∧ ¬ G w.heap.size) (Nat.le_succ _) hlV hbV ?_ (fun _ _ _ h => h.1) ?_ ⟨hI.below h0 hbV, hL, hD, fun h => by have := hG0 _ h; omega, fun h => by have := hG0 _ h; omega⟩).mono ?_
    · rintro i G W W' ⟨h1, h2, h3, h4, h5⟩ hk
      exact ⟨hI i G W W' h1 (hk.more fun k hk => hk.imp id fun hk => ⟨by have := hbV.size; omega, hk.2⟩), hk.block _ _ (fun e => e.elim (fun e => by have := hX _ e; omega) fun e => by omega) h2, hk.block _ _ (fun e => e.elim (fun e => by have := hX _ e; omega) fun e => by omega) h3, h4, h5⟩
    · rintro i G W v hi ⟨hI0, hl, hd, hn1, hn2⟩ hsz hv
      have hy := run_yield (P := P) (args := v) hl (by rw [hrc]; exact hps i G v W hv)
      rw [hrc] at hy
      refine ⟨fn, _, assign, body, hy, roundIn_of_wpIn trivial (hassign _ i G W v _ hi hI0 (Array.getElem?_eq_some_iff.1 hl).1 hv fun a' W0 hb0 hA0 => ⟨_, run_beginRound (keep hl hb0) (by rw [hrc]), ?_⟩)⟩
      have hl0 := keep hl hb0
      have hd0 := keep hd hb0
      have hI0' : I i G W0 := hI.below hI0 hb0
      obtain ⟨Xx, hXx⟩ : ∃ X, W0.putObj (w.heap.size + 1) (.loop { rc .ready none with state := .busy }) = X := ⟨_, rfl⟩
      rw [hXx]
      have hlX : Xx.heap[w.heap.size + 1]? = some (.loop { rc .ready none with state := .busy }) := hXx ▸ World.putObj_heap_same (Array.getElem?_eq_some_iff.1 hl0).1
      have hoX : ∀ k, k ≠ w.heap.size + 1 → Xx.heap[k]? = W0.heap[k]? := fun k hk => hXx ▸ World.putObj_heap_other (fun e => hk e)
      have hIX : I i G Xx := hXx ▸ hI i G W0 _ hI0' (keepPX_put (by omega) hn1 hl0)
      have hAX : A i G a' Xx := hXx ▸ hAp i G a' W0 _ _ hl0 hA0
      have hzX : W.heap.size ≤ Xx.heap.size := by rw [← hXx, putObj_size]; exact hb0.size
      refine wpIn_mono (hbody _ i G a' Xx hi hIX hAX) ?_
      rintro e a3 Y ⟨rfl, G', hI3, hk, hG'⟩
      have hlY := hk.block _ _ hn1 hlX
      have hr := run_endRound (P := P) none hlY
      obtain ⟨Z, hZ⟩ : ∃ Z, Y.putObj (w.heap.size + 1) (.loop { { rc .ready none with state := .busy } with state := if (none : Option Code).isNone then .ready else .done, pending := none }) = Z := ⟨_, rfl⟩
      rw [hZ] at hr
      have hlZ : Z.heap[w.heap.size + 1]? = some (.loop (rc .ready none)) := by
        rw [← hZ, World.putObj_heap_same (Array.getElem?_eq_some_iff.1 hlY).1, hrc]; rfl
      have hoZ : ∀ k, k ≠ w.heap.size + 1 → Z.heap[k]? = Y.heap[k]? := fun k hk => hZ ▸ World.putObj_heap_other (fun e => hk e)
      have hszl := (Array.getElem?_eq_some_iff.1 hlX).1
      have hn1' : ¬ G' (w.heap.size + 1) := fun h => (hG' _ h).elim hn1 (fun h => by omega)
      have hn2' : ¬ G' w.heap.size := fun h => (hG' _ h).elim hn2 (fun h => by omega)
      refine ⟨_, _, hr, rfl, G', ⟨hZ ▸ hI _ _ Y _ hI3 (keepPX_put (by omega) hn1' hlY), hlZ, ?_, hn1', hn2'⟩, ?_, fun b hb => (hG' b hb).imp id fun h => Nat.le_trans hzX h⟩
      · rw [hoZ _ (by omega)]
        exact hk.block _ _ hn2 ((hoX _ (by omega)).trans hd0)
      · refine ⟨?_, ?_, ?_, ?_, fun k o hk2 hx => ?_⟩
        · rw [← hZ]; exact hk.os.trans ((hXx ▸ rfl : Xx.os = W0.os).trans hb0.os)
        · rw [← hZ]; exact hk.tape.trans ((hXx ▸ rfl : Xx.tape = W0.tape).trans hb0.tape)
        · rw [← hZ]; exact hk.output.trans ((hXx ▸ rfl : Xx.output = W0.output).trans hb0.output)
        · rw [← hZ, putObj_size]; have := hk.size; omega
        · by_cases e : k = w.heap.size + 1
          · subst e; rw [hlZ, ← hl, hx]
          · rw [hoZ k e]; exact hk.block k o hk2 ((hoX k e).trans (keep hx hb0))
    · rintro e W2 ⟨⟨v, rfl⟩, G, hI2, hl, hd, hn1, hn2⟩
      have hr := run_endLoop (P := P) hl (by rw [hrc]; simp)
      refine ⟨none, _, by rw [hr, hrc], hdone _ G _ (Nat.le_refl _) hn2 (hI _ _ _ _ hI2 (keepPX_put (by omega) hn1 hl)) ((World.putObj_heap_other (by omega)).trans hd)⟩
end Go.Proofs.Ytcgccflcjejlhaa
namespace Go.Proofs.Ytcgccflcjejlhaa
open Go.RowKit
/-- A paper, and a flute. -/
structure Pa where
  kind : Int
  weight : Int
  t1 : Int
  t2 : Int
  m1 : Int
  m2 : Int
  price : Int
  strong : Int
structure Fu where
  pitch : Int
  draw : Int
  h1 : Int
  h2 : Int
structure PaIn (p : Pa) : Prop where
  kind : p.kind = 1 ∨ p.kind = 2
  weight : 1 ≤ p.weight ∧ p.weight ≤ 1000
  thick : 1 ≤ p.t1 ∧ p.t1 ≤ p.t2 ∧ p.t2 ≤ 1000
  moist : 0 ≤ p.m1 ∧ p.m1 ≤ p.m2 ∧ p.m2 ≤ 200
  price : 0 ≤ p.price ∧ p.price ≤ 1000000
  strong : 0 ≤ p.strong ∧ p.strong ≤ 10000
structure FuIn (q : Fu) : Prop where
  pitch : 1000 ≤ q.pitch ∧ q.pitch ≤ 10000
  draw : q.pitch ≤ q.draw ∧ q.draw ≤ 2 * q.pitch
  high : 1 ≤ q.h1 ∧ q.h1 ≤ q.h2 ∧ q.h2 ≤ 10000
/-- Papers that lie one behind another, and flutes. -/
def PaR (W : World) (b o n : Nat) (ps : Nat → Pa) : Prop := b < W.heap.size ∧ ∀ i, i < n → W.cell? ⟨b, o + i * 8, none⟩ = some (.int .i64 (ps i).kind) ∧ W.cell? ⟨b, o + i * 8 + 1, none⟩ = some (.int .i64 (ps i).weight) ∧ W.cell? ⟨b, o + i * 8 + 2, none⟩ = some (.int .i64 (ps i).t1) ∧ W.cell? ⟨b, o + i * 8 + 3, none⟩ = some (.int .i64 (ps i).t2) ∧ W.cell? ⟨b, o + i * 8 + 4, none⟩ = some (.int .i64 (ps i).m1) ∧ W.cell? ⟨b, o + i * 8 + 5, none⟩ = some (.int .i64 (ps i).m2) ∧ W.cell? ⟨b, o + i * 8 + 6, none⟩ = some (.int .i64 (ps i).price) ∧ W.cell? ⟨b, o + i * 8 + 7, none⟩ = some (.int .i64 (ps i).strong)
def FuR (W : World) (b o n : Nat) (qs : Nat → Fu) : Prop := b < W.heap.size ∧ ∀ i, i < n → W.cell? ⟨b, o + i * 4, none⟩ = some (.int .i64 (qs i).pitch) ∧ W.cell? ⟨b, o + i * 4 + 1, none⟩ = some (.int .i64 (qs i).draw) ∧ W.cell? ⟨b, o + i * 4 + 2, none⟩ = some (.int .i64 (qs i).h1) ∧ W.cell? ⟨b, o + i * 4 + 3, none⟩ = some (.int .i64 (qs i).h2)
theorem PaR.below {W W' : World} {b o n : Nat} {ps : Nat → Pa} (h : PaR W b o n ps) (hb : Below W.heap.size W W') : PaR W' b o n ps :=
  ⟨Nat.lt_of_lt_of_le h.1 hb.size, fun i hi => by
    obtain ⟨e0, e1, e2, e3, e4, e5, e6, e7⟩ := h.2 i hi
    exact ⟨(hb.cell (p := ⟨b, o + i * 8, none⟩) h.1).trans e0, (hb.cell (p := ⟨b, o + i * 8 + 1, none⟩) h.1).trans e1, (hb.cell (p := ⟨b, o + i * 8 + 2, none⟩) h.1).trans e2, (hb.cell (p := ⟨b, o + i * 8 + 3, none⟩) h.1).trans e3, (hb.cell (p := ⟨b, o + i * 8 + 4, none⟩) h.1).trans e4, (hb.cell (p := ⟨b, o + i * 8 + 5, none⟩) h.1).trans e5, (hb.cell (p := ⟨b, o + i * 8 + 6, none⟩) h.1).trans e6, (hb.cell (p := ⟨b, o + i * 8 + 7, none⟩) h.1).trans e7⟩⟩
theorem FuR.below {W W' : World} {b o n : Nat} {qs : Nat → Fu} (h : FuR W b o n qs) (hb : Below W.heap.size W W') : FuR W' b o n qs :=
  ⟨Nat.lt_of_lt_of_le h.1 hb.size, fun i hi => by
    obtain ⟨e0, e1, e2, e3⟩ := h.2 i hi
    exact ⟨(hb.cell (p := ⟨b, o + i * 4, none⟩) h.1).trans e0, (hb.cell (p := ⟨b, o + i * 4 + 1, none⟩) h.1).trans e1, (hb.cell (p := ⟨b, o + i * 4 + 2, none⟩) h.1).trans e2, (hb.cell (p := ⟨b, o + i * 4 + 3, none⟩) h.1).trans e3⟩⟩
end Go.Proofs.Ytcgccflcjejlhaa
namespace Go.Proofs.Ytcgccflcjejlhaa
open Go.RowKit
/-- A row of one's own, in block g. -/
def OwnR (T : TypeId) (z B n : Nat) (cs : List Value) (g c : Nat) (W : World) : Prop := B ≤ g ∧ g < W.heap.size ∧ W.ownsRow B T z (.slice (some ⟨g, 0, none⟩) n c) n cs
theorem OwnR.lim {T : TypeId} {z B n g c : Nat} {cs : List Value} {W : World} (h : OwnR T z B n cs g c W) : B ≤ g ∧ g < W.heap.size := ⟨h.1, h.2.1⟩
theorem OwnR.below {T : TypeId} {z B n g c : Nat} {cs : List Value} {W W' : World} (h : OwnR T z B n cs g c W) (hb : Below W.heap.size W W') : OwnR T z B n cs g c W' := by
  refine ⟨h.1, Nat.lt_of_lt_of_le h.2.1 hb.size, h.2.2.1, ?_⟩
  rcases h.2.2.2 with h4 | ⟨g', cap, cur, e, h5, h6, h7⟩
  · exact .inl h4
  · exact .inr ⟨g', cap, cur, e, h5, blk_below h6 hb, h7⟩
theorem OwnR.other {T : TypeId} {z B n g c b : Nat} {cs : List Value} {W W' : World} (h : OwnR T z B n cs g c W) (hot : ∀ k x, k ≠ b → W.heap[k]? = some x → W'.heap[k]? = some x) (hne : g ≠ b) (hz : W.heap.size ≤ W'.heap.size) : OwnR T z B n cs g c W' := by
  refine ⟨h.1, Nat.lt_of_lt_of_le h.2.1 hz, h.2.2.1, ?_⟩
  rcases h.2.2.2 with h4 | ⟨g', cap, cur, e, h5, h6, h7⟩
  · exact .inl h4
  · cases e
    exact .inr ⟨g, c, cur, rfl, h5, hot _ _ hne h6, h7⟩
theorem OwnR.cell {T : TypeId} {z B n g c : Nat} {cs : List Value} {W : World} (h : OwnR T z B n cs g c W) (j : Nat) {u : Value} (hj : cs[j]? = some u) : W.cell? ⟨g, j, none⟩ = some u := by
  rcases h.2.2.2 with ⟨h4, -⟩ | ⟨g', cap, cur, e, h5, h6, h7, h8, h9, h10⟩
  · cases h4
  · cases e
    have e1 : cs[j]? = (cur.toList.take (n * z))[j]? := by rw [h10]
    rw [hj] at e1
    have hlt : j < n * z := by
      rcases Nat.lt_or_ge j (n * z) with h' | h'
      · exact h'
      · rw [List.getElem?_eq_none (by simp; omega)] at e1; cases e1
    rw [List.getElem?_take_of_lt hlt, Array.getElem?_toList] at e1
    rw [Joins.cell_of_block h6 j, ← e1]
/-- append(l, x..) at a region's end, l one's own. -/
theorem growR_tail {w W : World} (sl ty T : TypeId) (z by_ : Nat) (zero : Value) (hu : Try.prog.underlying sl = some (.slice T)) (hi : (Try.prog.info? T).map (fun i => (i.zero, i.size, i.bytes)) = some (some zero, z, by_)) (hzz : decide (0 < z ∧ zero.cells.size = z) = true)
    {n g c : Nat} {cs : List Value} (ys : List Value) (m : Nat) {b off k c' : Nat} (es : List Value) (hB : Below w.heap.size w W) (hown : OwnR T z w.heap.size n cs g c W) (hys : cs ++ es = ys) (hm : n + k = m)
    (hel : decide (es.length = k * z ∧ 0 < k) = true) (h1 : es.all (·.oneCell') = true) (hb : ∀ j u, es[j]? = some u → W.cell? ⟨b, off + j, none⟩ = some u) (hn : decide ((n + k) * (by_ + 1) ≤ 1000000000) = true) :
    ∃ g' c2 W', (Builtin.append_ #[sl, sl] ty #[.slice (some ⟨g, 0, none⟩) n c, .slice (some ⟨b, off, none⟩) k c']).run Try.prog W = .ok (.slice (some ⟨g', 0, none⟩) m c2) W' ∧
      OwnR T z w.heap.size m ys g' c2 W' ∧ (∀ k y, k ≠ g → W.heap[k]? = some y → W'.heap[k]? = some y) ∧ W.heap.size ≤ W'.heap.size ∧ (g' = g ∨ g' = W.heap.size) ∧ Below w.heap.size w W' := by
  subst hys hm
  have hn := of_decide_eq_true hn
  obtain ⟨hz0, hzs⟩ := of_decide_eq_true hzz
  obtain ⟨hel, hk⟩ := of_decide_eq_true hel
  obtain ⟨i0, hi, hz0', hz1, hz2⟩ := info_parts hi
  have hnk : n + k ≤ (n + k) * (by_ + 1) := Nat.le_mul_of_pos_right _ (Nat.succ_pos _)
  have hnb : (n + k) * by_ ≤ (n + k) * (by_ + 1) := Nat.mul_le_mul_left _ (Nat.le_succ _)
  obtain ⟨g', c2, W', hr, h2, h3, h4, h5⟩ := run_append_lies (P := Try.prog) W sl ty w.heap.size T i0 zero z by_ hu hi hz0' hz1 hz2 hzs hz0 _ n cs hown.2.2
    ⟨b, off, none⟩ k c' es hel (fun j u hj => by rw [add_plain']; exact hb j u hj) (fun u hu => List.all_eq_true.1 h1 u hu) hk (by unfold maxLen; omega) (by omega) hB.size _ rfl
  have h4' : g' = g ∨ g' = W.heap.size := by
    rcases h4 with h4 | h4
    · left; simpa [Value.ownBlock] using h4.symm
    · exact .inr h4
  refine ⟨g', c2, W', hr, ⟨?_, h5, h2⟩, fun k y hk hy => ?_, h3.size, h4', hB.grown h3 hB.size fun k e => ?_⟩
  · have := hown.1; have := hB.size; omega
  · rw [h3.block k (by
      rcases Nat.lt_or_ge k W.heap.size with h | h
      · exact h
      · rw [Array.getElem?_eq_none h] at hy; cases hy) (fun e => hk (by simpa [Value.ownBlock] using e))]
    exact hy
  · have : k = g := by simpa [Value.ownBlock] using e.symm
    have := hown.1; omega
/-- The same, where l is nil. -/
theorem growR_nil {w W : World} (sl ty T : TypeId) (z by_ : Nat) (zero : Value) (hu : Try.prog.underlying sl = some (.slice T)) (hi : (Try.prog.info? T).map (fun i => (i.zero, i.size, i.bytes)) = some (some zero, z, by_)) (hzz : decide (0 < z ∧ zero.cells.size = z) = true)
    (m : Nat) {b off k c' : Nat} (es : List Value) (hB : Below w.heap.size w W) (hm : 0 + k = m)
    (hel : decide (es.length = k * z ∧ 0 < k) = true) (h1 : es.all (·.oneCell') = true) (hb : ∀ j u, es[j]? = some u → W.cell? ⟨b, off + j, none⟩ = some u) (hn : decide ((0 + k) * (by_ + 1) ≤ 1000000000) = true) :
    ∃ g' c2 W', (Builtin.append_ #[sl, sl] ty #[.slice none 0 0, .slice (some ⟨b, off, none⟩) k c']).run Try.prog W = .ok (.slice (some ⟨g', 0, none⟩) m c2) W' ∧
      OwnR T z w.heap.size m es g' c2 W' ∧ (∀ k y, k ≠ W.heap.size → W.heap[k]? = some y → W'.heap[k]? = some y) ∧ W.heap.size ≤ W'.heap.size ∧ g' = W.heap.size ∧ Below w.heap.size w W' := by
  subst hm
  have hn := of_decide_eq_true hn
  obtain ⟨hz0, hzs⟩ := of_decide_eq_true hzz
  obtain ⟨hel, hk⟩ := of_decide_eq_true hel
  obtain ⟨i0, hi, hz0', hz1, hz2⟩ := info_parts hi
  have hnk : 0 + k ≤ (0 + k) * (by_ + 1) := Nat.le_mul_of_pos_right _ (Nat.succ_pos _)
  have hnb : (0 + k) * by_ ≤ (0 + k) * (by_ + 1) := Nat.mul_le_mul_left _ (Nat.le_succ _)
  obtain ⟨g', c2, W', hr, h2, h3, h4, h5⟩ := run_append_lies (P := Try.prog) W sl ty w.heap.size T i0 zero z by_ hu hi hz0' hz1 hz2 hzs hz0 _ 0 [] (World.ownsRow_nil _ _ _ _)
    ⟨b, off, none⟩ k c' es hel (fun j u hj => by rw [add_plain']; exact hb j u hj) (fun u hu => List.all_eq_true.1 h1 u hu) hk (by unfold maxLen; omega) (by omega) hB.size _ rfl
  have h4' : g' = W.heap.size := by
    rcases h4 with h4 | h4
    · cases h4
    · exact h4
  refine ⟨g', c2, W', hr, ⟨?_, h5, by rw [List.nil_append] at h2; exact h2⟩, fun k y hk hy => ?_, h3.size, h4', hB.grown h3 hB.size fun k e => (by cases e)⟩
  · have := hB.size; omega
  · rw [h3.block k (by
      rcases Nat.lt_or_ge k W.heap.size with h | h
      · exact h
      · rw [Array.getElem?_eq_none h] at hy; cases hy) (fun e => (by cases e))]
    exact hy
/-- A store: its papers and its flutes. -/
def StoV (n : Nat) (ps : Nat → Pa) (m : Nat) (qs : Nat → Fu) (v : Value) (W : World) : Prop := ∃ g1 c1 g2 c2, v = .agg #[.slice (some ⟨g1, 0, none⟩) n c1, .slice (some ⟨g2, 0, none⟩) m c2] ∧ PaR W g1 0 n ps ∧ FuR W g2 0 m qs
theorem StoV.below {n : Nat} {ps : Nat → Pa} {m : Nat} {qs : Nat → Fu} {v : Value} {W W' : World} (h : StoV n ps m qs v W) (hb : Below W.heap.size W W') : StoV n ps m qs v W' := by
  obtain ⟨g1, c1, g2, c2, e, h1, h2⟩ := h
  exact ⟨g1, c1, g2, c2, e, h1.below hb, h2.below hb⟩
/-- A slice of papers, and one of flutes. -/
def PaV (n : Nat) (ps : Nat → Pa) (v : Value) (W : World) : Prop := ∃ g c, v = .slice (some ⟨g, 0, none⟩) n c ∧ PaR W g 0 n ps
theorem PaV.below {n : Nat} {ps : Nat → Pa} {v : Value} {W W' : World} (h : PaV n ps v W) (hb : Below W.heap.size W W') : PaV n ps v W' := by
  obtain ⟨g, c, e, h⟩ := h; exact ⟨g, c, e, h.below hb⟩
def FuV (n : Nat) (qs : Nat → Fu) (v : Value) (W : World) : Prop := ∃ g c, v = .slice (some ⟨g, 0, none⟩) n c ∧ FuR W g 0 n qs
theorem FuV.below {n : Nat} {qs : Nat → Fu} {v : Value} {W W' : World} (h : FuV n qs v W) (hb : Below W.heap.size W W') : FuV n qs v W' := by
  obtain ⟨g, c, e, h⟩ := h; exact ⟨g, c, e, h.below hb⟩
end Go.Proofs.Ytcgccflcjejlhaa
namespace Go.Proofs.Ytcgccflcjejlhaa
open Go.RowKit Go.Shelf
attribute [local go_sem] Oper.semAt_some
end Go.Proofs.Ytcgccflcjejlhaa
namespace Go.Proofs.Ytcgccflcjejlhaa
open Go.RowKit
end Go.Proofs.Ytcgccflcjejlhaa
namespace Go.Proofs.Ytcgccflcjejlhaa
open Go.RowKit
def IsKi (n : Nat) (xs : List Int) (v : Value) (W : World) : Prop := ∃ a c, v = .slice (some ⟨a, 0, none⟩) n c ∧ Ii W (some ⟨a, 0, none⟩) n c xs
theorem IsKi.below {n : Nat} {xs : List Int} {v : Value} {W W' : World} (h : IsKi n xs v W) (hb : Below W.heap.size W W') : IsKi n xs v W' := by
  obtain ⟨a, c, e, h⟩ := h; exact ⟨a, c, e, h.below hb (Nat.le_refl _)⟩
end Go.Proofs.Ytcgccflcjejlhaa
namespace Go.Proofs.Ytcgccflcjejlhaa
open Go.RowKit
end Go.Proofs.Ytcgccflcjejlhaa
namespace Go.Proofs.Ytcgccflcjejlhaa
open Go.RowKit
end Go.Proofs.Ytcgccflcjejlhaa
namespace Go.Proofs.Ytcgccflcjejlhaa
open Go.RowKit
end Go.Proofs.Ytcgccflcjejlhaa
namespace Go.Proofs.Ytcgccflcjejlhaa
open Go.RowKit
end Go.Proofs.Ytcgccflcjejlhaa
namespace Go.Proofs.Ytcgccflcjejlhaa
open Go.RowKit
structure LeY (b : Nat) (T : TypeId) (F : Array Value) (A C : World) : Prop where
  keep : KeepX b A C
  box : ∀ cs, A.heap[b]? = some (.cells cs T (0, 0)) → C.heap[b]? = some (.cells cs T (0, 0)) ∨ C.heap[b]? = some (.cells F T (0, 0))
section
variable {b : Nat} {T : TypeId} {F : Array Value}
theorem LeY.refl (a : World) : LeY b T F a a := ⟨KeepX.refl _ _, fun _ h => .inl h⟩
theorem LeY.trans (a c d : World) (h : LeY b T F a c) (k : LeY b T F c d) : LeY b T F a d :=
  ⟨h.keep.trans k.keep, fun cs hx => by
    rcases h.box cs hx with e | e
    · exact k.box cs e
    · rcases k.box F e with e | e <;> exact .inr e⟩
theorem LeY.of_below (a c : World) (h : Below a.heap.size a c) : LeY b T F a c := ⟨KeepX.of_below h, fun _ hx => .inl (blk_below hx h)⟩
theorem LeY.drew (a : World) : LeY b T F a a.drew := LeY.of_below _ _ (Below.refl _ _).drew
end
end Go.Proofs.Ytcgccflcjejlhaa
namespace Go.Proofs.Ytcgccflcjejlhaa
open Go.RowKit
end Go.Proofs.Ytcgccflcjejlhaa
namespace Go.Proofs.Ytcgccflcjejlhaa
open Go.RowKit
end Go.Proofs.Ytcgccflcjejlhaa
namespace Go.Proofs.Ytcgccflcjejlhaa
open Go.RowKit
/-- Bytes that lie one behind another. -/
def ByR (W : World) (b o n : Nat) (bs : Nat → Int) : Prop := b < W.heap.size ∧ ∀ i, i < n → W.cell? ⟨b, o + i, none⟩ = some (.int .u8 (bs i))
theorem ByR.below {W W' : World} {b o n : Nat} {bs : Nat → Int} (h : ByR W b o n bs) (hb : Below W.heap.size W W') : ByR W' b o n bs :=
  ⟨Nat.lt_of_lt_of_le h.1 hb.size, fun i hi => (hb.cell (p := ⟨b, o + i, none⟩) h.1).trans (h.2 i hi)⟩
end Go.Proofs.Ytcgccflcjejlhaa
namespace Go.Proofs.Ytcgccflcjejlhaa
open Go.RowKit
/-- A row of one's own that may be nil yet. -/
def OwnN (T : TypeId) (z B n : Nat) (cs : List Value) (a : Option Addr) (c : Nat) (W : World) : Prop :=
  (a = none ∧ n = 0 ∧ c = 0 ∧ cs = []) ∨ ∃ g, a = some ⟨g, 0, none⟩ ∧ OwnR T z B n cs g c W
theorem ownN_nil {T : TypeId} {z B : Nat} {W : World} : OwnN T z B 0 [] none 0 W := .inl ⟨rfl, rfl, rfl, rfl⟩
theorem OwnN.below {T : TypeId} {z B n c : Nat} {cs : List Value} {a : Option Addr} {W W' : World} (h : OwnN T z B n cs a c W) (hb : Below W.heap.size W W') : OwnN T z B n cs a c W' := by
  rcases h with h | ⟨g, e, h⟩
  · exact .inl h
  · exact .inr ⟨g, e, h.below hb⟩
theorem OwnN.lim {T : TypeId} {z B n c : Nat} {cs : List Value} {a : Option Addr} {W : World} (h : OwnN T z B n cs a c W) : ∀ g, a = some ⟨g, 0, none⟩ → B ≤ g ∧ g < W.heap.size := by
  intro g e
  rcases h with ⟨e', -⟩ | ⟨g', e', h⟩
  · rw [e'] at e; cases e
  · rw [e'] at e; cases e; exact h.lim
theorem ownN_ne {T T' : TypeId} {z B n c b : Nat} {cs : List Value} {a : Option Addr} {cs0 : Array Value} {W : World} (h : OwnN T z B n cs a c W) (hb : W.heap[b]? = some (.cells cs0 T' (0, 0))) (hT : (T' != T) = true := by decide) : ∀ g, a = some ⟨g, 0, none⟩ → g ≠ b := by
  intro g e
  rcases h with ⟨e', -⟩ | ⟨g', e', h⟩
  · rw [e'] at e; cases e
  · rw [e'] at e; cases e
    rintro rfl
    have hT' : T' ≠ T := bne_iff_ne.1 hT
    rcases h.2.2.2 with ⟨e, -⟩ | ⟨g', cap, cur, e, -, h6, -⟩
    · cases e
    · cases e
      rw [hb] at h6
      simp only [Option.some.injEq, Obj.cells.injEq] at h6
      exact hT' h6.2.1
theorem OwnN.other {T : TypeId} {z B n c b : Nat} {cs : List Value} {a : Option Addr} {W W' : World} (h : OwnN T z B n cs a c W) (hot : ∀ k x, k ≠ b → W.heap[k]? = some x → W'.heap[k]? = some x) (hne : ∀ g, a = some ⟨g, 0, none⟩ → g ≠ b) (hz : W.heap.size ≤ W'.heap.size) : OwnN T z B n cs a c W' := by
  rcases h with h | ⟨g, e, h⟩
  · exact .inl h
  · exact .inr ⟨g, e, h.other hot (hne g e) hz⟩
theorem OwnR.same {T : TypeId} {z B n g c : Nat} {cs : List Value} {W W' : World} (h : OwnR T z B n cs g c W) (hz : W.heap.size ≤ W'.heap.size) (hb : ∀ x, W.heap[g]? = some x → W'.heap[g]? = some x) : OwnR T z B n cs g c W' := by
  refine ⟨h.1, Nat.lt_of_lt_of_le h.2.1 hz, h.2.2.1, ?_⟩
  rcases h.2.2.2 with h4 | ⟨g', cap, cur, e, h5, h6, h7⟩
  · exact .inl h4
  · cases e
    exact .inr ⟨g, c, cur, rfl, h5, hb _ h6, h7⟩
theorem OwnN.otherN {T T' : TypeId} {z z' B B' n n' c c' : Nat} {cs cs' : List Value} {a a' : Option Addr} {W W' : World} (h : OwnN T z B n cs a c W) (h' : OwnN T' z' B' n' cs' a' c' W) (hot : ∀ k y, (∀ g, a' = some ⟨g, 0, none⟩ → g ≠ k) → W.heap[k]? = some y → W'.heap[k]? = some y) (hz : W.heap.size ≤ W'.heap.size) (hT : (T != T') = true := by decide) : OwnN T z B n cs a c W' := by
  rcases h with h | ⟨g, e, h⟩
  · exact .inl h
  · refine .inr ⟨g, e, h.same hz fun x hx => ?_⟩
    have hx' := hx
    rcases h.2.2.2 with ⟨e, -⟩ | ⟨g', cap, cur, e, h5, h6, h7⟩
    · cases e
    · cases e
      exact hot g x (ownN_ne h' h6 hT) hx'
/-- append(l, x) at a region's end, l a row of one's own that may be nil yet. -/
theorem growN_tail {w W : World} (sl ty T : TypeId) (z by_ : Nat) (zero : Value) (hu : Try.prog.underlying sl = some (.slice T)) (hi : (Try.prog.info? T).map (fun i => (i.zero, i.size, i.bytes)) = some (some zero, z, by_)) (hzz : decide (0 < z ∧ zero.cells.size = z) = true)
    {n c : Nat} {a : Option Addr} {cs : List Value} (ys : List Value) (m : Nat) {b off k c' : Nat} (es : List Value) (hB : Below w.heap.size w W) (hown : OwnN T z w.heap.size n cs a c W) (hys : cs ++ es = ys) (hm : n + k = m)
    (hel : decide (es.length = k * z ∧ 0 < k) = true) (h1 : es.all (·.oneCell') = true) (hb : ∀ j u, es[j]? = some u → W.cell? ⟨b, off + j, none⟩ = some u) (hn : (n + k) * (by_ + 1) ≤ 1000000000) :
    ∃ g' c2 W', (Builtin.append_ #[sl, sl] ty #[.slice a n c, .slice (some ⟨b, off, none⟩) k c']).run Try.prog W = .ok (.slice (some ⟨g', 0, none⟩) m c2) W' ∧
      OwnR T z w.heap.size m ys g' c2 W' ∧ (∀ k y, (∀ g, a = some ⟨g, 0, none⟩ → g ≠ k) → W.heap[k]? = some y → W'.heap[k]? = some y) ∧ W.heap.size ≤ W'.heap.size ∧ (a = some ⟨g', 0, none⟩ ∨ g' = W.heap.size) ∧ Below w.heap.size w W' := by
  rcases hown with ⟨rfl, rfl, rfl, rfl⟩ | ⟨g, rfl, hown⟩
  · obtain ⟨g', c2, W', hr, h1', h2, h3, h4, h5⟩ := growR_nil (w := w) (W := W) sl ty T z by_ zero hu hi hzz m (b := b) (off := off) (k := k) (c' := c') es hB hm hel h1 hb (decide_eq_true hn)
    refine ⟨g', c2, W', hr, by rw [← hys]; exact h1', fun k y _ hy => h2 k y (fun e => ?_) hy, h3, .inr h4, h5⟩
    have := lt_of_blk hy
    omega
  · obtain ⟨g', c2, W', hr, h1', h2, h3, h4, h5⟩ := growR_tail (w := w) (W := W) sl ty T z by_ zero hu hi hzz ys m (b := b) (off := off) (k := k) (c' := c') es hB hown hys hm hel h1 hb (decide_eq_true hn)
    exact ⟨g', c2, W', hr, h1', fun k y hk hy => h2 k y (fun e => hk g rfl e.symm) hy, h3, h4.imp (fun e => by rw [e]) id, h5⟩
/-- Rows of bytes that came in: n of k each. -/
def RowsB (W : World) (a : Option Addr) (n k : Nat) (pv : Nat → Nat → Int) : Prop := n = 0 ∨ ∃ b o, a = some ⟨b, o, none⟩ ∧ b < W.heap.size ∧ ∀ i j, i < n → j < k → W.cell? ⟨b, o + i * k + j, none⟩ = some (.int .u8 (pv i j))
theorem RowsB.below {W W' : World} {a : Option Addr} {n k : Nat} {pv : Nat → Nat → Int} (h : RowsB W a n k pv) (hb : Below W.heap.size W W') : RowsB W' a n k pv := by
  rcases h with h | ⟨b, o, e, hlt, h⟩
  · exact .inl h
  · exact .inr ⟨b, o, e, Nat.lt_of_lt_of_le hlt hb.size, fun i j hi hj => (hb.cell (p := ⟨b, o + i * k + j, none⟩) hlt).trans (h i j hi hj)⟩
theorem RowsB.at' {W : World} {a : Option Addr} {n k : Nat} {pv : Nat → Nat → Int} (h : RowsB W a n k pv) : ∃ b o, 0 < n → a = some ⟨b, o, none⟩ ∧ ∀ W', Below W.heap.size W W' → ∀ i j, i < n → j < k → W'.cell? ⟨b, o + i * k + j, none⟩ = some (.int .u8 (pv i j)) := by
  rcases h with h | ⟨b, o, e, hlt, h⟩
  · exact ⟨0, 0, fun h0 => by omega⟩
  · exact ⟨b, o, fun _ => ⟨e, fun W' hb i j hi hj => (hb.cell (p := ⟨b, o + i * k + j, none⟩) hlt).trans (h i j hi hj)⟩⟩
theorem OwnN.row {T : TypeId} {z B n g c : Nat} {cs : List Value} {W : World} (h : OwnN T z B n cs (some ⟨g, 0, none⟩) c W) : OwnR T z B n cs g c W := by
  rcases h with ⟨e, -⟩ | ⟨g', e, h⟩
  · cases e
  · cases e; exact h
theorem OwnN.low {T : TypeId} {z B B' n c : Nat} {cs : List Value} {a : Option Addr} {W : World} (h : OwnN T z B n cs a c W) (hB : B' ≤ B) : OwnN T z B' n cs a c W := by
  rcases h with h | ⟨g, e, h⟩
  · exact .inl h
  · exact .inr ⟨g, e, Nat.le_trans hB h.1, h.2.1, ownsRow_low h.2.2 hB⟩
end Go.Proofs.Ytcgccflcjejlhaa
