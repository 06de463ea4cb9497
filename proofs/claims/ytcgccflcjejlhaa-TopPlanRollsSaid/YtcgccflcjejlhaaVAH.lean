/- Part of the proof: what the claim leans on. -/
import Derived.RangeFuncNested
import Derived.RangeFuncBound
import Derived.RangeFuncCalls
import Derived.RangeFuncLeaves
import Derived.Shelf.Abstract
import Derived.Shelf.RegionOpen
import Derived.WalkKit
import Derived.OwnWalkIn
import Derived.TacticsInMore
import Derived.LoopNIn
import Derived.LoopIn
import Derived.Test.YtcgccflcjejlhaaVAA
import Derived.Test.YtcgccflcjejlhaaVAB
set_option maxHeartbeats 4000000
set_option linter.unusedSimpArgs false
set_option linter.unusedVariables false
namespace Go.Proofs.Ytcgccflcjejlhaa
open Go.RowKit Go.Shelf
structure KeepX (bn : Nat) (W W' : World) : Prop where
  os : W'.os = W.os
  tape : W'.tape = W.tape
  output : W'.output = W.output
  size : W.heap.size ≤ W'.heap.size
  block : ∀ k o, k ≠ bn → W.heap[k]? = some o → W'.heap[k]? = some o
theorem KeepX.refl (bn : Nat) (W : World) : KeepX bn W W := ⟨rfl, rfl, rfl, Nat.le_refl _, fun _ _ _ h => h⟩
theorem KeepX.trans {bn : Nat} {A B C : World} (h : KeepX bn A B) (k : KeepX bn B C) : KeepX bn A C :=
  ⟨k.os.trans h.os, k.tape.trans h.tape, k.output.trans h.output, Nat.le_trans h.size k.size, fun i o hi hx => k.block i o hi (h.block i o hi hx)⟩
theorem KeepX.of_below {bn : Nat} {A B : World} (h : Below A.heap.size A B) : KeepX bn A B :=
  ⟨h.os, h.tape, h.output, h.size, fun i o _ hx => (h.block i (Array.getElem?_eq_some_iff.1 hx).1).trans hx⟩
theorem KeepX.below {bn B : Nat} {A C : World} (h : KeepX bn A C) (hb : B ≤ bn) (hB : B ≤ A.heap.size) : Below B A C :=
  ⟨h.os, h.tape, h.output, h.size, fun k hk => by
    have hx : A.heap[k]? = some A.heap[k] := Array.getElem?_eq_getElem (by omega)
    rw [hx]; exact h.block k _ (by omega) hx⟩
theorem putObj_size (W : World) (l : Nat) (o : Obj) : (W.putObj l o).heap.size = W.heap.size := by simp [World.putObj]
open Go.RowKit Go.Shelf
structure KeepP (S : Nat → Prop) (W W' : World) : Prop where
  os : W'.os = W.os
  tape : W'.tape = W.tape
  output : W'.output = W.output
  size : W.heap.size ≤ W'.heap.size
  block : ∀ k o, ¬ S k → W.heap[k]? = some o → W'.heap[k]? = some o
theorem KeepP.refl (S : Nat → Prop) (W : World) : KeepP S W W := ⟨rfl, rfl, rfl, Nat.le_refl _, fun _ _ _ h => h⟩
theorem KeepP.trans {S : Nat → Prop} {A B C : World} (h : KeepP S A B) (k : KeepP S B C) : KeepP S A C :=
  ⟨k.os.trans h.os, k.tape.trans h.tape, k.output.trans h.output, Nat.le_trans h.size k.size, fun i o hi hx => k.block i o hi (h.block i o hi hx)⟩
theorem KeepP.of_below {S : Nat → Prop} {A B : World} (h : Below A.heap.size A B) : KeepP S A B :=
  ⟨h.os, h.tape, h.output, h.size, fun i o _ hx => (h.block i (Array.getElem?_eq_some_iff.1 hx).1).trans hx⟩
theorem KeepP.below {S : Nat → Prop} {B : Nat} {A C : World} (h : KeepP S A C) (hb : ∀ k, S k → B ≤ k) (hB : B ≤ A.heap.size) : Below B A C :=
  ⟨h.os, h.tape, h.output, h.size, fun k hk => by
    have hx : A.heap[k]? = some A.heap[k] := Array.getElem?_eq_getElem (by omega)
    rw [hx]; exact h.block k _ (fun hs => by have := hb k hs; omega) hx⟩
theorem KeepP.more {S S' : Nat → Prop} {A B : World} (h : KeepP S A B) (hs : ∀ k, S k → S' k) : KeepP S' A B :=
  ⟨h.os, h.tape, h.output, h.size, fun k o hk hx => h.block k o (fun e => hk (hs k e)) hx⟩
open Go.RowKit Go.Shelf
theorem calls_frM {P : Program} {f : FuncId} {fn : Func} {c : Code} {args : Array Value} {w : World} {R : Ending → World → Prop} {N n : Nat} (hf : P.funcs[f]? = some fn) (hN : fn.ntmps = N) (hb : fn.body = some c) (a : decide (args.size ≤ N) = true)
    (h : ∀ g : Nat → Value, (∀ i, g i = args.getD i undef) → c.wp P (bodyPostM Fence.wide n P fn R) (fr N g) w) : Calls P f args w R := by
  subst hN
  refine (callsIn_wide (n := n)).1 (callsIn_of_wp_marks hf hb trivial (wpIn_wide.2 ?_) rfl)
  have := h (fun i => args.getD i undef) fun _ => rfl
  have hs' := of_decide_eq_true a
  have e : fr fn.ntmps (fun i => args.getD i undef) = { tmps := args ++ Array.replicate (fn.ntmps - args.size) undef, defers := [] } := by
    simp only [fr, Act.mk.injEq, and_true]
    apply Array.ext
    · simp; omega
    · intro i h1 h2
      simp only [List.getElem_toArray, List.getElem_map, List.getElem_range]
      by_cases hi : i < args.size
      · rw [Array.getElem_append_left hi]; simp [hi]
      · rw [Array.getElem_append_right (by omega)]; simp [hi]
  rw [← e]; exact this
theorem leave_mark {P : Program} {fn : Func} {R : Ending → World → Prop} {tmps : Array Value} {W : World} {D n : Nat} {v : Value} {e : Exit} {a : Act} (he : e = .normal ∨ e = .ret) (ha : a.tmps = tmps) (hd : a.defers = [{ target := .collected D, args := #[] }]) (hD : W.heap[D]? = some (.deferred (some [])))
    (hr : ∀ W', (results fn tmps).run P W' = .ok v W') (h : R (.returned v) (W.putObj D (.deferred none))) : bodyPostM Fence.wide n P fn R e a W := by
  have key : LeavesInM Fence.wide n P fn a.tmps R a.defers .returning W := by
    rw [hd, ha]
    exact ⟨by simp, .inl ⟨D, _, rfl, run_takeDeferred hD, v, hr _, h⟩⟩
  rcases he with rfl | rfl
  · exact key
  · exact key
theorem below_put {B : Nat} {W : World} {l : Nat} {o : Obj} (h : B ≤ l) : Below B W (W.putObj l o) :=
  ⟨rfl, rfl, rfl, by rw [putObj_size]; exact Nat.le_refl _, fun k hk => World.putObj_heap_other (by omega)⟩
def frD (ds : List Deferred) (N : Nat) (g : Nat → Value) : Act := { tmps := (fr N g).tmps, defers := ds }
theorem frD_put (ds : List Deferred) (N : Nat) (g : Nat → Value) (d : Nat) (v : Value) : (frD ds N g).put (some d) v = frD ds N (upd g d v) := by
  have h := fr_put N g d v
  simp only [Act.put, frD] at h ⊢
  rw [← h]
theorem frD_evv {ds : List Deferred} {N : Nat} {g : Nat → Value} {t : Nat} {v : Value} (hv : g t = v) (ht : decide (t < N) = true := by rfl) : (frD ds N g).tmps[t]?.getD undef = v := frv N hv ht
theorem inD_value {n : Nat} {P : Program} {ops : Array Oper} {Q : Exit → Act → World → Prop} {i d N : Nat} {ds : List Deferred} {L : List Nat} {g : Nat → Value} {W : World} {o : Oper} {v : Value} (ho : ops[i]? = some o) (hg : o.guard = none) (hd : o.dst = some d) (hr : (execOp (frD ds N g).eval o).run P W = .ok (.value v) W)
    (h : wpOpsIn Fence.wide n P ops Q L (frD ds N (upd g d v)) W) : wpOpsIn Fence.wide n P ops Q (i :: L) (frD ds N g) W := by
  rw [wpOpsIn_cons]
  unfold wpOpIn
  simp only [ho, Region.wanted, hg, if_true]
  refine ⟨fun _ _ => trivial, ?_⟩
  show o.uponIn _ _ _ _ _ _ ((execOp (frD ds N g).eval o).run P W)
  rw [hr]
  show wpOpsIn _ _ _ _ _ _ ((frD ds N g).put o.dst v) W
  rw [hd, frD_put]; exact h
theorem inD_round {n : Nat} {P : Program} {ops : Array Oper} {Q : Exit → Act → World → Prop} {i d N l : Nat} {ds : List Deferred} {args : Array Value} {L : List Nat} {g : Nat → Value} {W : World} {o : Oper} {R : Ending → World → Prop} (ho : ops[i]? = some o) (hg : o.guard = none) (hd : o.dst = some d) (hr : (execOp (frD ds N g).eval o).run P W = (Instr.yield l args).run P W)
    (hy : YieldAt Fence.wide (n - 1) P l args W R) (hK : ∀ v W', R (.returned v) W' → wpOpsIn Fence.wide n P ops Q L (frD ds N (upd g d v)) W') (h1 : ∀ W', ¬ R .outgrown W') (h2 : ∀ c W', ¬ R (.panicked c) W') : wpOpsIn Fence.wide n P ops Q (i :: L) (frD ds N g) W := by
  rw [wpOpsIn_cons]
  unfold wpOpIn
  simp only [ho, Region.wanted, hg, if_true]
  refine ⟨fun _ _ => trivial, ?_⟩
  show o.uponIn _ _ _ _ _ _ ((execOp (frD ds N g).eval o).run P W)
  obtain ⟨fn, tmps, assign, body, h3, h4⟩ := hy
  rw [hr, h3, Oper.uponIn_round]
  refine ⟨fun h => by simp [Fence.wide] at h, h4.mono fun e W' he => ?_⟩
  cases e with
  | returned v =>
    show wpOpsIn _ _ _ _ _ _ ((frD ds N g).put o.dst v) W'
    rw [hd, frD_put]; exact hK v W' he
  | panicked c => exact absurd he (h2 c W')
  | outgrown => exact absurd he (h1 W')
open Go.RowKit Go.Shelf
section
variable {P : Program} {ops : Array Oper} {Q : Exit → Act → World → Prop} {l n : Nat}
def noDefer (ops : Array Oper) : Bool := ops.all fun o => match o.op with | .defer _ => false | _ => true
theorem noDefer_at (h : noDefer ops = true) {i : Nat} {o : Oper} (ho : ops[i]? = some o) : ∀ c, o.op ≠ .defer c := by
  intro c hc
  obtain ⟨hi, rfl⟩ := Array.getElem?_eq_some_iff.1 ho
  have := Array.all_eq_true.1 h i hi
  rw [hc] at this
  cases this
theorem rowsI {row : String} {args : Array Value} {w : World} {R R' : Value → World → Prop} (h : Rows P row args w R) (hr : ∀ v w', R v w' → R' v w') : RowsIn (Fence.wide.inRound l) n P row args w R' := by
  intro c cs _
  obtain ⟨v, w', r, s⟩ := h c cs
  exact ⟨v, w', hr _ _ r, stepsIn_wide.2 s⟩
theorem wpOpI (hQ : ¬ LetsOut Q) (hd : noDefer ops = true) {i : Nat} {K K' : Act → World → Prop} (hK : ∀ a w, K a w → K' a w) {a : Act} {w : World} (h : wpOp P ops Q i K a w) : wpOpIn (Fence.wide.inRound l) n P ops Q i K' a w := by
  unfold wpOp at h
  unfold wpOpIn
  cases ho : ops[i]? with
  | none => simp only [ho] at h ⊢; exact hK _ _ h
  | some o =>
    simp only [ho] at h ⊢
    split
    · rename_i hw
      simp only [hw, if_true] at h
      rcases h with h | ⟨-, h⟩
      · refine ⟨fun _ _ => trivial, ?_⟩
        rw [Oper.semAt_eq _ _ _ (noDefer_at hd ho)]
        unfold Oper.wp at h
        generalize (execOp a.eval o).run P w = r at h ⊢
        cases r with
        | ok x w' =>
          cases x <;> simp only [Oper.upon, Oper.uponIn] at h ⊢ <;>
            first
              | exact hK _ _ h
              | exact h.elim
              | exact ⟨fun h => by simp [Fence.wide] at h, CallsIn.inRound l (callsIn_wide.2 (Calls.mono h fun e w'' he => by cases e <;> first | exact hK _ _ he | exact he))⟩
              | exact ⟨fun h => by simp [Fence.wide] at h, rowsI h fun _ _ he => hK _ _ he⟩
        | halt x w' => cases x <;> simp only [Oper.upon, Oper.uponIn] at h ⊢ <;> exact h
      · exact absurd h hQ
    · rename_i hw
      simp only [hw] at h
      exact ⟨fun _ _ => trivial, hK _ _ h⟩
theorem wpOpsI (hQ : ¬ LetsOut Q) (hd : noDefer ops = true) : ∀ (L : List Nat) (a : Act) (w : World), wpOps P ops Q L a w → wpOpsIn (Fence.wide.inRound l) n P ops Q L a w
  | [], _, _, h => h
  | i :: L, a, w, h => by
    rw [wpOps_cons] at h
    rw [wpOpsIn_cons]
    exact wpOpI hQ hd (fun a w h => wpOpsI hQ hd L a w h) h
theorem wpAnyI (hQ : ¬ LetsOut Q) (hd : noDefer ops = true) : ∀ (m : Nat) (listed : Array Bool) (a : Act) (w : World), wpAny P .any ops Q m listed a w → wpAnyIn (Fence.wide.inRound l) n P .any ops Q m listed a w
  | 0, _, _, _, h => h
  | m + 1, listed, a, w, h => ⟨h.1, fun i hi => wpOpI hQ hd (fun a w h => wpAnyI hQ hd m _ a w h) (h.2 i hi)⟩
end
section
variable {P : Program} {ops : Array Oper} {Q : Exit → Act → World → Prop} {Le : World → World → Prop} {R : Nat → Value → (Nat → Nat) → World → Prop} {mk : (Nat → Value) → Act} {l m : Nat}
theorem region_addsI {id : Nat} {draw : Bool} {w : World} (hQ : ¬ LetsOut Q) (hd : noDefer ops = true) (n : Nat) (ds : List (List Nat)) (f0 : Nat → Value) (hm : P.follows .mixedOrders = true) (hok : okWaits ops ds (if draw then n else ops.size) = true) (hn : decide (n ≤ ops.size) = true)
    (hrefl : ∀ a, Le a a) (hdrew : ∀ a, Le a a.drew) (htrans : ∀ a b c, Le a b → Le b c → Le a c) (hsize : ∀ a b, Le a b → a.heap.size ≤ b.heap.size)
    (hmono : ∀ i v k W W', Le W W' → R i v k W → R i v k W') (hcong : ∀ i v s s' W, (∀ j ∈ i :: ds.getD i [], s j = s' j) → R i v s W → R i v s' W) (steps : AddSteps P ops Q Le R mk w f0 ds 0 n)
    (fin : ∀ f s t W, AddInv Le R w (fun i => i < n) f s t W → wpOps P ops Q (List.range' n (ops.size - n)) (mk f) W) :
    (Code.region id ops draw).wpIn (Fence.wide.inRound l) m P Q (mk f0) w := by
  have hn' := of_decide_eq_true hn
  cases draw with
  | false =>
    refine wpIn_region (wpOpsI hQ hd _ _ _ ?_)
    rw [List.range_eq_range']
    exact wpOps_adds hn' htrans hsize hmono hcong hok steps fin n 0 f0 (fun _ => 0) (fun _ => 0) w (by omega) ⟨hrefl w, fun i hi => absurd hi (Nat.not_lt_zero _), fun i j hi => absurd hi (Nat.not_lt_zero _)⟩ (fun _ _ => rfl)
  | true =>
    refine wpIn_region_any hm (wpAnyI hQ hd _ _ _ _ ?_)
    have h := wpAny_adds hn' htrans hsize hmono hcong hok steps fin n (Array.replicate ops.size false) f0 (fun _ => 0) (fun _ => 0) w.drew (by simp) (fun j _ => by rw [Array.getD_eq_getD_getElem?]; by_cases hj : j < ops.size <;> simp [hj]) ?_ ?_ ?_ (fun _ _ => rfl)
    · rw [show n + (ops.size - n) = ops.size by omega] at h
      exact h
    · rw [List.countP_eq_length.2 fun j _ => ?_, List.length_range]
      rw [Array.getD_eq_getD_getElem?]; by_cases hj : j < ops.size <;> simp [hj]
    · intro j oj hj
      exfalso
      rw [Array.getD_eq_getD_getElem?] at hj
      by_cases hjs : j < ops.size <;> simp [hjs] at hj
    · have hf : ∀ j, ¬ (Array.replicate ops.size false).getD j false = true := by
        intro j hj
        rw [Array.getD_eq_getD_getElem?] at hj
        by_cases hjs : j < ops.size <;> simp [hjs] at hj
      exact ⟨hdrew w, fun i hi => absurd hi (hf i), fun i j hi => absurd hi (hf i)⟩
end
section
variable {P : Program} {ops : Array Oper} {Q : Exit → Act → World → Prop}
theorem region_doI {l m : Nat} {id : Nat} {draw : Bool} {N : Nat} {g : Nat → Value} {w : World} (hQ : ¬ LetsOut Q) (hd : noDefer ops = true) (n : Nat) (al : List (Nat × Nat)) (ds : List (List Nat)) (R : Nat → Value → (Nat → Nat) → World → Prop)
    (hm : P.follows .mixedOrders = true) (hal : okSlots ops al = true) (hok : okWaits ops ds (if draw then n else ops.size) = true) (hn : decide (n ≤ ops.size) = true) (hst : Stays R ds 0 n) (steps : OpsDo P ops Q N al g R w ds 0 n)
    (fin : ∀ f s W, Behind R w n f s W → wpOps P ops Q (List.range' n (ops.size - n)) (fr N (ov al f g)) W) :
    (Code.region id ops draw).wpIn (Fence.wide.inRound l) m P Q (fr N g) w := by
  obtain ⟨f0, hf0, hf1⟩ := ov_start (g := g) hal
  have h := region_addsI (l := l) (m := m) (P := P) (Q := Q) (id := id) (draw := draw) (w := w) (Le := fun a b => Below a.heap.size a b) (R := fun i v s W => i < n → R i v s W) (mk := fun f => fr N (ov al f g)) hQ hd n ds f0 hm hok hn
    (fun a => Below.refl _ _) (fun a => (Below.refl _ _).drew) (fun a b c => bwt) (fun a b h => h.size)
    (fun i v k W W' hle h hi => by have := (stays_at n 0 hst i hi).1 v k W W' hle; rw [Nat.zero_add] at this; exact this (h hi))
    (fun i v s s' W he h hi => by have := (stays_at n 0 hst i hi).2 v s s' W; rw [Nat.zero_add] at this; exact this he (h hi))
    ?_ ?_
  · simp only [hf0] at h; exact h
  · have key : ∀ m i, i + m = n → AddSteps P ops Q (fun a b => Below a.heap.size a b) (fun i v k W => i < n → R i v k W) (fun f => fr N (ov al f g)) w f0 ds i m := by
      intro m
      induction m with
      | zero => intro i _; exact True.intro
      | succ m ih =>
        intro i him
        refine ⟨fun f s W hle hd hlate K hK => ?_, ih (i + 1) (by omega)⟩
        have hsz : i < ops.size := by have := of_decide_eq_true hn; omega
        have ho := Array.getElem?_eq_getElem hsz
        have hdo := opsDo_at n 0 steps i (by omega) f s W hle
        rw [Nat.zero_add] at hdo
        have hdd : ∀ k, (ds.getD i []).contains k = true → R k (f k) s W ∧ w.heap.size ≤ s k := fun k hk => by
          have hk' : k ∈ ds.getD i [] := by simpa using hk
          have hlt := ((okWaits_at hok ho).1 k hk').1
          have := allIn_mem hd k hk'
          exact ⟨this.1 (by omega), this.2⟩
        refine hdo (fun k hk => (hdd k hk).1) (fun k hk => (hdd k hk).2) (fun p d hp hd' => (hlate p (by simpa using hp)).trans (hf1 (d, p) (by simpa using hd'))) _ (holds_fr _ _ _ _ _) K fun v W' hb hR => ?_
        have := hK v W' hb fun _ => hR
        rw [ho]
        simp only [Option.bind_some]
        rw [okSlots_at hal ho]
        exact this
    exact key n 0 (by omega)
  · rintro f s t W ⟨h1, h2, h3⟩
    exact fin f s W ⟨h1, fun i hi => (h2 i hi).1 hi, fun i hi => (h2 i hi).2.1, t, fun i hi => ⟨(h2 i hi).2.2.1, (h2 i hi).2.2.2.1, (h2 i hi).2.2.2.2.imp fun _ h => ⟨h.1 hi, h.2⟩⟩, fun i j hi hj => h3 i j hi hj⟩
end
open Go.RowKit Go.Shelf
def YldG (J : Nat → (Nat → Prop) → World → Prop) (i : Nat) (G : Nat → Prop) (W : World) (e : Ending) (W' : World) : Prop :=
  e = .returned (.bool true) ∧ ∃ G', J (i + 1) G' W' ∧ KeepP G W W' ∧ ∀ b, G' b → G b ∨ W.heap.size ≤ b
def NoCells (W : World) (b : Nat) : Prop := ∀ cs T m, W.heap[b]? ≠ some (.cells cs T m)
theorem noCells_of {W : World} {b : Nat} {o : Obj} (h : W.heap[b]? = some o) (hn : ∀ cs T m, o ≠ .cells cs T m) : NoCells W b := fun cs T m e => by rw [h] at e; exact hn cs T m (Option.some.inj e)
def StabG (J : Nat → (Nat → Prop) → World → Prop) (B : Nat) : Prop := ∀ i G W W', J i G W → KeepP (fun b => B ≤ b ∧ ¬ G b ∧ NoCells W b) W W' → J i G W'
theorem StabG.below {J : Nat → (Nat → Prop) → World → Prop} {B i : Nat} {G : Nat → Prop} {W W' : World} (h : StabG J B) (hj : J i G W) (hb : Below W.heap.size W W') : J i G W' := h i G W W' hj (KeepP.of_below hb)
theorem keepP_put {B l : Nat} {G : Nat → Prop} {W : World} {o : Obj} {r : Loop} (hl : B ≤ l) (hg : ¬ G l) (hr : W.heap[l]? = some (.loop r)) : KeepP (fun b => B ≤ b ∧ ¬ G b ∧ NoCells W b) W (W.putObj l o) :=
  ⟨rfl, rfl, rfl, by rw [putObj_size]; exact Nat.le_refl _, fun k x hk hx => (World.putObj_heap_other (fun e => hk (by subst e; exact ⟨hl, hg, noCells_of hr (fun _ _ _ h => nomatch h)⟩))).trans hx⟩
theorem range_g {n : Nat} {P : Program} {g : Operand} {ps : Array Tmp} {assign body : Code} {Q : Exit → Act → World → Prop} {a : Act} {w : World} {gf : Nat} {rcv lb : Array Value}
    (hg : a.eval g = .func (.func gf) rcv lb) (eg : ∀ args w, (callFunc gf args).run P w = .ok (.enter gf args) w) (m : Nat) (E : Nat → (Nat → Prop) → Array Value → World → Prop) (hps : ∀ i G v W, E i G v W → v.size = ps.size)
    (I : Nat → (Nat → Prop) → World → Prop) (hI : StabG I w.heap.size) (G0 : Nat → Prop) (hG0 : ∀ b, G0 b → b < w.heap.size)
    (hit : ∀ (l : Nat) (W1 : World) (J : Nat → (Nat → Prop) → World → Prop), w.heap.size ≤ l → l < W1.heap.size → Below w.heap.size w W1 → StabG J W1.heap.size → (∀ i G W, J i G W → I i G W) →
      (∀ i G W v, i < m → J i G W → W1.heap.size ≤ W.heap.size → E i G v W → YieldAt Fence.wide (n - 1 - 1) P l v W (YldG J i G W)) → J 0 G0 W1 →
      CallsIn Fence.wide (n - 1) P gf (rcv ++ #[.func (.yield l) #[] #[]] ++ lb) W1 fun e W' => (∃ v, e = .returned v) ∧ ∃ G, J m G W')
    (h0 : I 0 G0 w) (A : Nat → (Nat → Prop) → Act → World → Prop) (hAp : ∀ i G a' W r o, W.heap[w.heap.size + 1]? = some (.loop r) → A i G a' W → A i G a' (W.putObj (w.heap.size + 1) o))
    (hassign : ∀ (l i : Nat) (G : Nat → Prop) (W : World) (v : Array Value) (K : Act → World → Prop), i < m → I i G W → w.heap.size + 1 < W.heap.size → E i G v W → (∀ a' W', Below W.heap.size W W' → A i G a' W' → K a' W') → assign.wpIn (Fence.wide.inRound l) (n - 1 - 1) P (Exit.then K fun _ _ _ => False) { tmps := (ps.zip v).foldl (fun t (p, v) => t.setIfInBounds p v) a.tmps, defers := [] } W)
    (hbody : ∀ (l i : Nat) (G : Nat → Prop) (a' : Act) (W : World), i < m → I i G W → A i G a' W → body.wpIn (Fence.wide.inRound l) (n - 1 - 1) P (fun e _ W' => e = .normal ∧ ∃ G', I (i + 1) G' W' ∧ KeepP G W W' ∧ ∀ b, G' b → G b ∨ W.heap.size ≤ b) a' W)
    (hdone : ∀ (D : Nat) (G : Nat → Prop) (W : World), w.heap.size ≤ D → ¬ G D → I m G W → W.heap[D]? = some (.deferred (some [])) → Q .normal { a with defers := { target := .collected D, args := #[] } :: a.defers } W) :
    (Code.rangeFunc g ps assign body).wpIn Fence.wide n P Q a w := by
  refine wpIn_rangeFunc fun fn _ => ?_
  obtain ⟨rc, hrc⟩ : ∃ rc : LoopState → Option Code → Loop, ∀ st pe, rc st pe = { state := st, pending := pe, fn, tmps := a.tmps, params := ps, assign, body, defers := w.heap.size } := ⟨_, fun _ _ => rfl⟩
  obtain ⟨V, hV⟩ : ∃ V, (w.alloc (.deferred (some []))).alloc (.loop (rc .ready none)) = V := ⟨_, rfl⟩
  have hbV : Below w.heap.size w V := hV ▸ ((Below.refl _ w).alloc (Nat.le_refl _) _).alloc (by simp) _
  have hL : V.heap[w.heap.size + 1]? = some (.loop (rc .ready none)) := by
    rw [← hV]; have := World.alloc_heap_new (w.alloc (.deferred (some []))) (.loop (rc .ready none)); rwa [World.size_alloc] at this
  have hD : V.heap[w.heap.size]? = some (.deferred (some [])) := by
    rw [← hV]; exact (Below.heap_alloc _ _ _ (by simp)).trans (World.alloc_heap_new w _)
  have hlV := (Array.getElem?_eq_some_iff.1 hL).1
  refine ⟨w.heap.size + 1, [{ target := .collected w.heap.size, args := #[] }], V, { target := .fn (.func gf) lb, args := rcv ++ #[.func (.yield (w.heap.size + 1)) #[] #[]] }, V, gf, rcv ++ #[.func (.yield (w.heap.size + 1)) #[] #[]] ++ lb, V, ?_, ?_, fun _ _ => trivial, ?_, fun h => by simp [Fence.wide] at h, ?_⟩
  · rw [← hV, hrc]; exact run_enterLoop_outer _ _ _ _ _
  · simp only [resolve, hg]
    simp [go_sem]
  · simp [invoke, go_sem, eg]
  · have keep : ∀ {A B : World} {k : Nat} {o : Obj}, A.heap[k]? = some o → Below A.heap.size A B → B.heap[k]? = some o := fun hx hb => (hb.block _ (Array.getElem?_eq_some_iff.1 hx).1).trans hx
    refine (hit (w.heap.size + 1) V (fun i G W => I i G W ∧ W.heap[w.heap.size + 1]? = some (.loop (rc .ready none)) ∧ W.heap[w.heap.size]? = some (.deferred (some [])) ∧ ¬ G (w.heap.size + 1) ∧ ¬ G w.heap.size) (Nat.le_succ _) hlV hbV ?_ (fun _ _ _ h => h.1) ?_ ⟨hI.below h0 hbV, hL, hD, fun h => by have := hG0 _ h; omega, fun h => by have := hG0 _ h; omega⟩).mono ?_
    · rintro i G W W' ⟨h1, h2, h3, h4, h5⟩ hk
      exact ⟨hI i G W W' h1 (hk.more fun k hk => ⟨by have := hbV.size; omega, hk.2⟩), hk.block _ _ (fun e => by omega) h2, hk.block _ _ (fun e => by omega) h3, h4, h5⟩
    · rintro i G W v hi ⟨hI0, hl, hd, hn1, hn2⟩ hsz hv
      have hy := run_yield (P := P) (args := v) hl (by rw [hrc]; exact hps i G v W hv)
      rw [hrc] at hy
      refine ⟨fn, _, assign, body, hy, roundIn_of_wpIn trivial (hassign _ i G W v _ hi hI0 (Array.getElem?_eq_some_iff.1 hl).1 hv fun a' W0 hb0 hA0 => ⟨_, run_beginRound (keep hl hb0) (by rw [hrc]), ?_⟩)⟩
      have hl0 := keep hl hb0
      have hd0 := keep hd hb0
      have hI0' : I i G W0 := hI.below hI0 hb0
      obtain ⟨X, hX⟩ : ∃ X, W0.putObj (w.heap.size + 1) (.loop { rc .ready none with state := .busy }) = X := ⟨_, rfl⟩
      rw [hX]
      have hlX : X.heap[w.heap.size + 1]? = some (.loop { rc .ready none with state := .busy }) := hX ▸ World.putObj_heap_same (Array.getElem?_eq_some_iff.1 hl0).1
      have hoX : ∀ k, k ≠ w.heap.size + 1 → X.heap[k]? = W0.heap[k]? := fun k hk => hX ▸ World.putObj_heap_other (fun e => hk e)
      have hIX : I i G X := hX ▸ hI i G W0 _ hI0' (keepP_put (by omega) hn1 hl0)
      have hAX : A i G a' X := hX ▸ hAp i G a' W0 _ _ hl0 hA0
      have hzX : W.heap.size ≤ X.heap.size := by rw [← hX, putObj_size]; exact hb0.size
      refine wpIn_mono (hbody _ i G a' X hi hIX hAX) ?_
      rintro e a3 Y ⟨rfl, G', hI3, hk, hG'⟩
      have hlY := hk.block _ _ hn1 hlX
      have hr := run_endRound (P := P) none hlY
      obtain ⟨Z, hZ⟩ : ∃ Z, Y.putObj (w.heap.size + 1) (.loop { { rc .ready none with state := .busy } with state := if (none : Option Code).isNone then .ready else .done, pending := none }) = Z := ⟨_, rfl⟩
      rw [hZ] at hr
      have hlZ : Z.heap[w.heap.size + 1]? = some (.loop (rc .ready none)) := by
        rw [← hZ, World.putObj_heap_same (Array.getElem?_eq_some_iff.1 hlY).1, hrc]; rfl
      have hoZ : ∀ k, k ≠ w.heap.size + 1 → Z.heap[k]? = Y.heap[k]? := fun k hk => hZ ▸ World.putObj_heap_other (fun e => hk e)
      have hszl := (Array.getElem?_eq_some_iff.1 hlX).1
      have hn1' : ¬ G' (w.heap.size + 1) := fun h => (hG' _ h).elim hn1 (fun h => by omega)
      have hn2' : ¬ G' w.heap.size := fun h => (hG' _ h).elim hn2 (fun h => by omega)
      refine ⟨_, _, hr, rfl, G', ⟨hZ ▸ hI _ _ Y _ hI3 (keepP_put (by omega) hn1' hlY), hlZ, ?_, hn1', hn2'⟩, ?_, fun b hb => (hG' b hb).imp id fun h => Nat.le_trans hzX h⟩
      · rw [hoZ _ (by omega)]
        exact hk.block _ _ hn2 ((hoX _ (by omega)).trans hd0)
      · refine ⟨?_, ?_, ?_, ?_, fun k o hk2 hx => ?_⟩
        · rw [← hZ]; exact hk.os.trans ((hX ▸ rfl : X.os = W0.os).trans hb0.os)
        · rw [← hZ]; exact hk.tape.trans ((hX ▸ rfl : X.tape = W0.tape).trans hb0.tape)
        · rw [← hZ]; exact hk.output.trans ((hX ▸ rfl : X.output = W0.output).trans hb0.output)
        · rw [← hZ, putObj_size]; have := hk.size; omega
        · by_cases e : k = w.heap.size + 1
          · subst e; rw [hlZ, ← hl, hx]
          · rw [hoZ k e]; exact hk.block k o hk2 ((hoX k e).trans (keep hx hb0))
    · rintro e W2 ⟨⟨v, rfl⟩, G, hI2, hl, hd, hn1, hn2⟩
      have hr := run_endLoop (P := P) hl (by rw [hrc]; simp)
      refine ⟨none, _, by rw [hr, hrc], hdone _ G _ (Nat.le_refl _) hn2 (hI _ _ _ _ hI2 (keepP_put (by omega) hn1 hl)) ((World.putObj_heap_other (by omega)).trans hd)⟩
theorem yieldAt_fuel {m m' : Nat} {P : Program} {l : Nat} {args : Array Value} {W : World} {R : Ending → World → Prop} (h : YieldAt Fence.wide m P l args W R) : YieldAt Fence.wide m' P l args W R := by
  obtain ⟨fn, tmps, assign, body, h1, h2, h3⟩ := h
  exact ⟨fn, tmps, assign, body, h1, h2, fun c cs _ => h3 c cs (room_wide _)⟩
def mkD (D : Nat) : Deferred := { target := .collected D, args := #[] }
def MarksOk (W : World) (Ds : List Nat) : Prop := Ds.Pairwise (· ≠ ·) ∧ ∀ D ∈ Ds, W.heap[D]? = some (.deferred (some []))
theorem leaves_marks {P : Program} {fn : Func} {tmps : Array Value} {n : Nat} {v : Value} {R : Ending → World → Prop} (hr : ∀ W', (results fn tmps).run P W' = .ok v W') : ∀ (Ds : List Nat) (W : World), MarksOk W Ds → (∀ W', KeepP (fun b => b ∈ Ds) W W' → R (.returned v) W') → LeavesInM Fence.wide n P fn tmps R (Ds.map mkD) .returning W
  | [], W, _, h => ⟨v, hr W, h W (KeepP.refl _ _)⟩
  | D :: Ds, W, hm, h => by
    have hD := hm.2 D (by simp)
    refine ⟨by simp, .inl ⟨D, _, rfl, run_takeDeferred hD, ?_⟩⟩
    have hp := List.pairwise_cons.1 hm.1
    refine leaves_marks hr Ds _ ⟨hp.2, fun E hE => ?_⟩ fun W' hk => h W' ?_
    · exact (World.putObj_heap_other (fun e => hp.1 E hE e.symm)).trans (hm.2 E (List.mem_cons_of_mem _ hE))
    · refine KeepP.trans (B := W.putObj D (.deferred none)) ⟨rfl, rfl, rfl, by rw [putObj_size]; exact Nat.le_refl _, fun k x hk hx => (World.putObj_heap_other (fun e => hk (by simp [e]))).trans hx⟩ (hk.more fun k hk => List.mem_cons_of_mem _ hk)
theorem leave_marks {P : Program} {fn : Func} {tmps : Array Value} {W : World} {n : Nat} {v : Value} {R : Ending → World → Prop} {e : Exit} {a : Act} {Ds : List Nat} (he : e = .normal ∨ e = .ret) (ha : a.tmps = tmps) (hd : a.defers = Ds.map mkD) (hD : MarksOk W Ds)
    (hr : ∀ W', (results fn tmps).run P W' = .ok v W') (h : ∀ W', KeepP (fun b => b ∈ Ds) W W' → R (.returned v) W') : bodyPostM Fence.wide n P fn R e a W := by
  have key : LeavesInM Fence.wide n P fn a.tmps R a.defers .returning W := by
    rw [hd, ha]; exact leaves_marks hr Ds W hD h
  rcases he with rfl | rfl
  · exact key
  · exact key
theorem MarksOk.keep {W W' : World} {S : Nat → Prop} {Ds : List Nat} (h : MarksOk W Ds) (hk : KeepP S W W') (hn : ∀ D ∈ Ds, ¬ S D) : MarksOk W' Ds := ⟨h.1, fun D hD => hk.block _ _ (hn D hD) (h.2 D hD)⟩
theorem holds_frD (ops : Array Oper) (ds : List Deferred) (N : Nat) (al : List (Nat × Nat)) (f g : Nat → Value) : Holds' ops N (ov al f g) (frD ds N (ov al f g)) :=
  ⟨(holds_fr ops N al f g).at', (holds_fr ops N al f g).ev, (holds_fr ops N al f g).says⟩
section
variable {P : Program} {ops : Array Oper} {Q : Exit → Act → World → Prop}
theorem region_doD {id : Nat} {draw : Bool} {N : Nat} {dl : List Deferred} {g : Nat → Value} {w : World} (n : Nat) (al : List (Nat × Nat)) (ds : List (List Nat)) (R : Nat → Value → (Nat → Nat) → World → Prop)
    (hm : P.follows .mixedOrders = true) (hal : okSlots ops al = true) (hok : okWaits ops ds (if draw then n else ops.size) = true) (hn : decide (n ≤ ops.size) = true) (hst : Stays R ds 0 n) (steps : OpsDo P ops Q N al g R w ds 0 n)
    (fin : ∀ f s W, Behind R w n f s W → wpOps P ops Q (List.range' n (ops.size - n)) (frD dl N (ov al f g)) W) :
    (Code.region id ops draw).wp P Q (frD dl N g) w := by
  obtain ⟨f0, hf0, hf1⟩ := ov_start (g := g) hal
  have h := wp_region_adds (P := P) (Q := Q) (id := id) (draw := draw) (w := w) (Le := fun a b => Below a.heap.size a b) (R := fun i v s W => i < n → R i v s W) (mk := fun f => frD dl N (ov al f g)) n ds f0 hm hok hn
    (fun a => Below.refl _ _) (fun a => (Below.refl _ _).drew) (fun a b c => bwt) (fun a b h => h.size)
    (fun i v k W W' hle h hi => by have := (stays_at n 0 hst i hi).1 v k W W' hle; rw [Nat.zero_add] at this; exact this (h hi))
    (fun i v s s' W he h hi => by have := (stays_at n 0 hst i hi).2 v s s' W; rw [Nat.zero_add] at this; exact this he (h hi))
    ?_ ?_
  · simp only [hf0] at h; exact h
  · have key : ∀ m i, i + m = n → AddSteps P ops Q (fun a b => Below a.heap.size a b) (fun i v k W => i < n → R i v k W) (fun f => frD dl N (ov al f g)) w f0 ds i m := by
      intro m
      induction m with
      | zero => intro i _; exact True.intro
      | succ m ih =>
        intro i him
        refine ⟨fun f s W hle hd hlate K hK => ?_, ih (i + 1) (by omega)⟩
        have hsz : i < ops.size := by have := of_decide_eq_true hn; omega
        have ho := Array.getElem?_eq_getElem hsz
        have hdo := opsDo_at n 0 steps i (by omega) f s W hle
        rw [Nat.zero_add] at hdo
        have hdd : ∀ k, (ds.getD i []).contains k = true → R k (f k) s W ∧ w.heap.size ≤ s k := fun k hk => by
          have hk' : k ∈ ds.getD i [] := by simpa using hk
          have hlt := ((okWaits_at hok ho).1 k hk').1
          have := allIn_mem hd k hk'
          exact ⟨this.1 (by omega), this.2⟩
        refine hdo (fun k hk => (hdd k hk).1) (fun k hk => (hdd k hk).2) (fun p d hp hd' => (hlate p (by simpa using hp)).trans (hf1 (d, p) (by simpa using hd'))) _ (holds_frD _ _ _ _ _ _) K fun v W' hb hR => ?_
        have := hK v W' hb fun _ => hR
        rw [ho]
        simp only [Option.bind_some]
        have e := okSlots_at hal ho N f g v
        have e' : (frD dl N (ov al f g)).put ops[i].dst v = frD dl N (ov al (upd f i v) g) := by
          have e2 := congrArg (fun a : Act => ({ tmps := a.tmps, defers := dl } : Act)) e
          cases hx : ops[i].dst <;> (rw [hx] at e2; exact e2)
        rw [e']
        exact this
    exact key n 0 (by omega)
  · rintro f s t W ⟨h1, h2, h3⟩
    exact fin f s W ⟨h1, fun i hi => (h2 i hi).1 hi, fun i hi => (h2 i hi).2.1, t, fun i hi => ⟨(h2 i hi).2.2.1, (h2 i hi).2.2.2.1, (h2 i hi).2.2.2.2.imp fun _ h => ⟨h.1 hi, h.2⟩⟩, fun i j hi hj => h3 i j hi hj⟩
end
open Go.RowKit Go.Shelf
def StabX (X : Nat → Prop) (J : Nat → (Nat → Prop) → World → Prop) (B : Nat) : Prop := ∀ i G W W', J i G W → KeepP (fun b => X b ∨ (B ≤ b ∧ ¬ G b)) W W' → J i G W'
theorem StabX.below {X : Nat → Prop} {J : Nat → (Nat → Prop) → World → Prop} {B i : Nat} {G : Nat → Prop} {W W' : World} (h : StabX X J B) (hj : J i G W) (hb : Below W.heap.size W W') : J i G W' := h i G W W' hj (KeepP.of_below hb)
theorem keepPX_put {X : Nat → Prop} {B l : Nat} {G : Nat → Prop} {W : World} {o : Obj} {r : Loop} (hl : B ≤ l) (hg : ¬ G l) (hr : W.heap[l]? = some (.loop r)) : KeepP (fun b => X b ∨ (B ≤ b ∧ ¬ G b)) W (W.putObj l o) :=
  (keepP_put hl hg hr).more fun _ h => .inr ⟨h.1, h.2.1⟩
theorem range_gx {n : Nat} {P : Program} {g : Operand} {ps : Array Tmp} {assign body : Code} {Q : Exit → Act → World → Prop} {a : Act} {w : World} {gf : Nat} {rcv lb : Array Value}
    (hg : a.eval g = .func (.func gf) rcv lb) (eg : ∀ args w, (callFunc gf args).run P w = .ok (.enter gf args) w) (m : Nat) (E : Nat → (Nat → Prop) → Array Value → World → Prop) (hps : ∀ i G v W, E i G v W → v.size = ps.size)
    (I : Nat → (Nat → Prop) → World → Prop) (X : Nat → Prop) (hX : ∀ b, X b → b < w.heap.size) (hI : StabX X I w.heap.size) (G0 : Nat → Prop) (hG0 : ∀ b, G0 b → b < w.heap.size)
    (hit : ∀ (l : Nat) (W1 : World) (J : Nat → (Nat → Prop) → World → Prop), w.heap.size ≤ l → l < W1.heap.size → Below w.heap.size w W1 → StabX X J W1.heap.size → (∀ i G W, J i G W → I i G W) →
      (∀ i G W v, i < m → J i G W → W1.heap.size ≤ W.heap.size → E i G v W → YieldAt Fence.wide (n - 1 - 1) P l v W (YldG J i G W)) → J 0 G0 W1 →
      CallsIn Fence.wide (n - 1) P gf (rcv ++ #[.func (.yield l) #[] #[]] ++ lb) W1 fun e W' => (∃ v, e = .returned v) ∧ ∃ G, J m G W')
    (h0 : I 0 G0 w) (A : Nat → (Nat → Prop) → Act → World → Prop) (hAp : ∀ i G a' W r o, W.heap[w.heap.size + 1]? = some (.loop r) → A i G a' W → A i G a' (W.putObj (w.heap.size + 1) o))
    (hassign : ∀ (l i : Nat) (G : Nat → Prop) (W : World) (v : Array Value) (K : Act → World → Prop), i < m → I i G W → w.heap.size + 1 < W.heap.size → E i G v W → (∀ a' W', Below W.heap.size W W' → A i G a' W' → K a' W') → assign.wpIn (Fence.wide.inRound l) (n - 1 - 1) P (Exit.then K fun _ _ _ => False) { tmps := (ps.zip v).foldl (fun t (p, v) => t.setIfInBounds p v) a.tmps, defers := [] } W)
    (hbody : ∀ (l i : Nat) (G : Nat → Prop) (a' : Act) (W : World), i < m → I i G W → A i G a' W → body.wpIn (Fence.wide.inRound l) (n - 1 - 1) P (fun e _ W' => e = .normal ∧ ∃ G', I (i + 1) G' W' ∧ KeepP G W W' ∧ ∀ b, G' b → G b ∨ W.heap.size ≤ b) a' W)
    (hdone : ∀ (D : Nat) (G : Nat → Prop) (W : World), w.heap.size ≤ D → ¬ G D → I m G W → W.heap[D]? = some (.deferred (some [])) → Q .normal { a with defers := { target := .collected D, args := #[] } :: a.defers } W) :
    (Code.rangeFunc g ps assign body).wpIn Fence.wide n P Q a w := by
  refine wpIn_rangeFunc fun fn _ => ?_
  obtain ⟨rc, hrc⟩ : ∃ rc : LoopState → Option Code → Loop, ∀ st pe, rc st pe = { state := st, pending := pe, fn, tmps := a.tmps, params := ps, assign, body, defers := w.heap.size } := ⟨_, fun _ _ => rfl⟩
  obtain ⟨V, hV⟩ : ∃ V, (w.alloc (.deferred (some []))).alloc (.loop (rc .ready none)) = V := ⟨_, rfl⟩
  have hbV : Below w.heap.size w V := hV ▸ ((Below.refl _ w).alloc (Nat.le_refl _) _).alloc (by simp) _
  have hL : V.heap[w.heap.size + 1]? = some (.loop (rc .ready none)) := by
    rw [← hV]; have := World.alloc_heap_new (w.alloc (.deferred (some []))) (.loop (rc .ready none)); rwa [World.size_alloc] at this
  have hD : V.heap[w.heap.size]? = some (.deferred (some [])) := by
    rw [← hV]; exact (Below.heap_alloc _ _ _ (by simp)).trans (World.alloc_heap_new w _)
  have hlV := (Array.getElem?_eq_some_iff.1 hL).1
  refine ⟨w.heap.size + 1, [{ target := .collected w.heap.size, args := #[] }], V, { target := .fn (.func gf) lb, args := rcv ++ #[.func (.yield (w.heap.size + 1)) #[] #[]] }, V, gf, rcv ++ #[.func (.yield (w.heap.size + 1)) #[] #[]] ++ lb, V, ?_, ?_, fun _ _ => trivial, ?_, fun h => by simp [Fence.wide] at h, ?_⟩
  · rw [← hV, hrc]; exact run_enterLoop_outer _ _ _ _ _
  · simp only [resolve, hg]
    simp [go_sem]
  · simp [invoke, go_sem, eg]
  · have keep : ∀ {A B : World} {k : Nat} {o : Obj}, A.heap[k]? = some o → Below A.heap.size A B → B.heap[k]? = some o := fun hx hb => (hb.block _ (Array.getElem?_eq_some_iff.1 hx).1).trans hx
    refine (hit (w.heap.size + 1) V (fun i G W => I i G W ∧ W.heap[w.heap.size + 1]? = some (.loop (rc .ready none)) ∧ W.heap[w.heap.size]? = some (.deferred (some [])) ∧ ¬ G (w.heap.size + 1) ∧ ¬ G w.heap.size) (Nat.le_succ _) hlV hbV ?_ (fun _ _ _ h => h.1) ?_ ⟨hI.below h0 hbV, hL, hD, fun h => by have := hG0 _ h; omega, fun h => by have := hG0 _ h; omega⟩).mono ?_
    · rintro i G W W' ⟨h1, h2, h3, h4, h5⟩ hk
      exact ⟨hI i G W W' h1 (hk.more fun k hk => hk.imp id fun hk => ⟨by have := hbV.size; omega, hk.2⟩), hk.block _ _ (fun e => e.elim (fun e => by have := hX _ e; omega) fun e => by omega) h2, hk.block _ _ (fun e => e.elim (fun e => by have := hX _ e; omega) fun e => by omega) h3, h4, h5⟩
    · rintro i G W v hi ⟨hI0, hl, hd, hn1, hn2⟩ hsz hv
      have hy := run_yield (P := P) (args := v) hl (by rw [hrc]; exact hps i G v W hv)
      rw [hrc] at hy
      refine ⟨fn, _, assign, body, hy, roundIn_of_wpIn trivial (hassign _ i G W v _ hi hI0 (Array.getElem?_eq_some_iff.1 hl).1 hv fun a' W0 hb0 hA0 => ⟨_, run_beginRound (keep hl hb0) (by rw [hrc]), ?_⟩)⟩
      have hl0 := keep hl hb0
      have hd0 := keep hd hb0
      have hI0' : I i G W0 := hI.below hI0 hb0
      obtain ⟨Xx, hXx⟩ : ∃ X, W0.putObj (w.heap.size + 1) (.loop { rc .ready none with state := .busy }) = X := ⟨_, rfl⟩
      rw [hXx]
      have hlX : Xx.heap[w.heap.size + 1]? = some (.loop { rc .ready none with state := .busy }) := hXx ▸ World.putObj_heap_same (Array.getElem?_eq_some_iff.1 hl0).1
      have hoX : ∀ k, k ≠ w.heap.size + 1 → Xx.heap[k]? = W0.heap[k]? := fun k hk => hXx ▸ World.putObj_heap_other (fun e => hk e)
      have hIX : I i G Xx := hXx ▸ hI i G W0 _ hI0' (keepPX_put (by omega) hn1 hl0)
      have hAX : A i G a' Xx := hXx ▸ hAp i G a' W0 _ _ hl0 hA0
      have hzX : W.heap.size ≤ Xx.heap.size := by rw [← hXx, putObj_size]; exact hb0.size
      refine wpIn_mono (hbody _ i G a' Xx hi hIX hAX) ?_
      rintro e a3 Y ⟨rfl, G', hI3, hk, hG'⟩
      have hlY := hk.block _ _ hn1 hlX
      have hr := run_endRound (P := P) none hlY
      obtain ⟨Z, hZ⟩ : ∃ Z, Y.putObj (w.heap.size + 1) (.loop { { rc .ready none with state := .busy } with state := if (none : Option Code).isNone then .ready else .done, pending := none }) = Z := ⟨_, rfl⟩
      rw [hZ] at hr
      have hlZ : Z.heap[w.heap.size + 1]? = some (.loop (rc .ready none)) := by
        rw [← hZ, World.putObj_heap_same (Array.getElem?_eq_some_iff.1 hlY).1, hrc]; rfl
      have hoZ : ∀ k, k ≠ w.heap.size + 1 → Z.heap[k]? = Y.heap[k]? := fun k hk => hZ ▸ World.putObj_heap_other (fun e => hk e)
      have hszl := (Array.getElem?_eq_some_iff.1 hlX).1
      have hn1' : ¬ G' (w.heap.size + 1) := fun h => (hG' _ h).elim hn1 (fun h => by omega)
      have hn2' : ¬ G' w.heap.size := fun h => (hG' _ h).elim hn2 (fun h => by omega)
      refine ⟨_, _, hr, rfl, G', ⟨hZ ▸ hI _ _ Y _ hI3 (keepPX_put (by omega) hn1' hlY), hlZ, ?_, hn1', hn2'⟩, ?_, fun b hb => (hG' b hb).imp id fun h => Nat.le_trans hzX h⟩
      · rw [hoZ _ (by omega)]
        exact hk.block _ _ hn2 ((hoX _ (by omega)).trans hd0)
      · refine ⟨?_, ?_, ?_, ?_, fun k o hk2 hx => ?_⟩
        · rw [← hZ]; exact hk.os.trans ((hXx ▸ rfl : Xx.os = W0.os).trans hb0.os)
        · rw [← hZ]; exact hk.tape.trans ((hXx ▸ rfl : Xx.tape = W0.tape).trans hb0.tape)
        · rw [← hZ]; exact hk.output.trans ((hXx ▸ rfl : Xx.output = W0.output).trans hb0.output)
        · rw [← hZ, putObj_size]; have := hk.size; omega
        · by_cases e : k = w.heap.size + 1
          · subst e; rw [hlZ, ← hl, hx]
          · rw [hoZ k e]; exact hk.block k o hk2 ((hoX k e).trans (keep hx hb0))
    · rintro e W2 ⟨⟨v, rfl⟩, G, hI2, hl, hd, hn1, hn2⟩
      have hr := run_endLoop (P := P) hl (by rw [hrc]; simp)
      refine ⟨none, _, by rw [hr, hrc], hdone _ G _ (Nat.le_refl _) hn2 (hI _ _ _ _ hI2 (keepPX_put (by omega) hn1 hl)) ((World.putObj_heap_other (by omega)).trans hd)⟩
open Go.RowKit
structure Pa where
  kind : Int
  weight : Int
  t1 : Int
  t2 : Int
  m1 : Int
  m2 : Int
  price : Int
  strong : Int
structure Fu where
  pitch : Int
  draw : Int
  h1 : Int
  h2 : Int
structure PaIn (p : Pa) : Prop where
  kind : p.kind = 1 ∨ p.kind = 2
  weight : 1 ≤ p.weight ∧ p.weight ≤ 1000
  thick : 1 ≤ p.t1 ∧ p.t1 ≤ p.t2 ∧ p.t2 ≤ 1000
  moist : 0 ≤ p.m1 ∧ p.m1 ≤ p.m2 ∧ p.m2 ≤ 200
  price : 0 ≤ p.price ∧ p.price ≤ 1000000
  strong : 0 ≤ p.strong ∧ p.strong ≤ 10000
structure FuIn (q : Fu) : Prop where
  pitch : 1000 ≤ q.pitch ∧ q.pitch ≤ 10000
  draw : q.pitch ≤ q.draw ∧ q.draw ≤ 2 * q.pitch
  high : 1 ≤ q.h1 ∧ q.h1 ≤ q.h2 ∧ q.h2 ≤ 10000
end Go.Proofs.Ytcgccflcjejlhaa
