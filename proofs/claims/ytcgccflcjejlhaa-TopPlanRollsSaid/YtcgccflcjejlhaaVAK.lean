/- Part of the proof: what the claim leans on. -/
import Derived.Test.YtcgccflcjejlhaaVAJ
import Derived.Test.YtcgccflcjejlhaaVAB
import Derived.Test.YtcgccflcjejlhaaVAC
import Derived.Test.YtcgccflcjejlhaaVAH
set_option linter.unusedSimpArgs false
set_option linter.unusedVariables false
namespace Go.Proofs.Ytcgccflcjejlhaa
open Go.RowKit Go.Shelf
section
variable {P : Program} {ops : Array Oper} {Q : Exit → Act → World → Prop}
theorem tail_skipD {i m : Nat} {N : Nat} {dl : List Deferred} {g : Nat → Value} {W W' : World} {o : Oper} (ho : ops[i]? = some o) (hg : (o.guard = none ∧ o.dst = none)) (hr : (execOp (fr N g).eval o).run P W = .ok .skip W')
    (h : wpOps P ops Q (List.range' (i + 1) m) (frD dl N g) W') : wpOps P ops Q (List.range' i (m + 1)) (frD dl N g) W := by
  have hr' : (execOp (frD dl N g).eval o).run P W = .ok .skip W' := hr
  rw [List.range'_succ, wpOps_cons]
  unfold wpOp
  simp only [ho, Region.wanted, hg.1, if_true]
  refine .inl ?_
  unfold Oper.wp
  rw [hr']
  show wpOps _ _ _ _ ((frD dl N g).put o.dst _) W'
  rw [hg.2]; exact h
end
theorem leaves_marksC {P : Program} {fn : Func} {tmps : Array Value} {n : Nat} {v : Value} {R : Ending → World → Prop} : ∀ (Ds : List Nat) (W : World), MarksOk W Ds → (∀ W', KeepP (fun b => b ∈ Ds) W W' → (results fn tmps).run P W' = .ok v W') → (∀ W', KeepP (fun b => b ∈ Ds) W W' → R (.returned v) W') → LeavesInM Fence.wide n P fn tmps R (Ds.map mkD) .returning W
  | [], W, _, hr, h => ⟨v, hr W (KeepP.refl _ _), h W (KeepP.refl _ _)⟩
  | D :: Ds, W, hm, hr, h => by
    have hD := hm.2 D (by simp)
    refine ⟨by simp, .inl ⟨D, _, rfl, run_takeDeferred hD, ?_⟩⟩
    have hp := List.pairwise_cons.1 hm.1
    have hk0 : KeepP (fun b => b ∈ D :: Ds) W (W.putObj D (.deferred none)) := ⟨rfl, rfl, rfl, by rw [putObj_size]; exact Nat.le_refl _, fun k x hk hx => (World.putObj_heap_other (fun e => hk (by simp [e]))).trans hx⟩
    have hkm : ∀ W', KeepP (fun b => b ∈ Ds) (W.putObj D (.deferred none)) W' → KeepP (fun b => b ∈ D :: Ds) W W' := fun W' hk => hk0.trans (hk.more fun k hk => List.mem_cons_of_mem _ hk)
    exact leaves_marksC Ds _ ⟨hp.2, fun E hE => (World.putObj_heap_other (fun e => hp.1 E hE e.symm)).trans (hm.2 E (List.mem_cons_of_mem _ hE))⟩ (fun W' hk => hr W' (hkm W' hk)) (fun W' hk => h W' (hkm W' hk))
theorem leave_marksC {P : Program} {fn : Func} {N : Nat} {g : Nat → Value} {dl : List Deferred} {W : World} {n : Nat} {v : Value} {R : Ending → World → Prop} {e : Exit} {Ds : List Nat} (he : e = .normal ∨ e = .ret) (hd : dl = Ds.map mkD) (hD : MarksOk W Ds)
    (hr : ∀ W', KeepP (fun b => b ∈ Ds) W W' → (results fn (fr N g).tmps).run P W' = .ok v W') (h : ∀ W', KeepP (fun b => b ∈ Ds) W W' → R (.returned v) W') : bodyPostM Fence.wide n P fn R e (frD dl N g) W := by
  subst hd
  have key : LeavesInM Fence.wide n P fn (frD (Ds.map mkD) N g).tmps R (frD (Ds.map mkD) N g).defers .returning W := leaves_marksC Ds W hD hr h
  rcases he with rfl | rfl
  · exact key
  · exact key
theorem MarksOk.below {W W' : World} {Ds : List Nat} (h : MarksOk W Ds) (hb : Below W.heap.size W W') : MarksOk W' Ds := ⟨h.1, fun D hD => (hb.block _ (Array.getElem?_eq_some_iff.1 (h.2 D hD)).1).trans (h.2 D hD)⟩
theorem MarksOk.ne {W : World} {Ds : List Nat} {b : Nat} {cs : Array Value} {T : TypeId} (h : MarksOk W Ds) (hb : W.heap[b]? = some (.cells cs T (0, 0))) : b ∉ Ds := fun e => by have := h.2 b e; rw [hb] at this; cases this
theorem KeepP.cellsM {W W' : World} {Ds : List Nat} {b : Nat} {cs : Array Value} {T : TypeId} (hk : KeepP (fun b => b ∈ Ds) W W') (h : MarksOk W Ds) (hb : W.heap[b]? = some (.cells cs T (0, 0))) : W'.heap[b]? = some (.cells cs T (0, 0)) := hk.block _ _ (h.ne hb) hb
theorem MarksOk.one {W : World} {D : Nat} (h : W.heap[D]? = some (.deferred (some []))) : MarksOk W [D] := ⟨by simp, fun E hE => by obtain rfl := List.mem_singleton.1 hE; exact h⟩
theorem MarksOk.setRow {W W' : World} {Ds : List Nat} {b : Nat} {cs cs' : Array Value} {T : TypeId} (h : MarksOk W Ds) (hb : W.heap[b]? = some (.cells cs T (0, 0))) (hW : W' = W.setRow b cs') : MarksOk W' Ds := ⟨h.1, fun D hD => by
  have hne : D ≠ b := fun e => h.ne hb (e ▸ hD)
  rw [hW]; simp only [World.setRow]
  rw [Array.getElem?_modify, if_neg (fun e => hne e.symm)]; exact h.2 D hD⟩
def RgI (w W0 : World) (G0 : Nat → Prop) (P : Nat → (Nat → Prop) → World → Prop) (i : Nat) (G : Nat → Prop) (W : World) : Prop := Below w.heap.size w W ∧ KeepP (fun b => G0 b ∨ W0.heap.size ≤ b) W0 W ∧ P i G W
theorem rgI_stab {w W0 : World} {G0 : Nat → Prop} {P : Nat → (Nat → Prop) → World → Prop} (h0 : w.heap.size ≤ W0.heap.size) (hP : ∀ i G W W', P i G W → KeepP (fun b => W0.heap.size ≤ b ∧ ¬ G b) W W' → P i G W') : StabX (fun _ => False) (RgI w W0 G0 P) W0.heap.size := by
  rintro i G W W' ⟨h1, h2, h3⟩ hk
  have hk' : KeepP (fun b => W0.heap.size ≤ b ∧ ¬ G b) W W' := hk.more fun b hb => hb.elim (fun h => h.elim) id
  exact ⟨h1.trans (hk'.below (fun b hb => Nat.le_trans h0 hb.1) h1.size), h2.trans (hk'.more fun b hb => .inr hb.1), hP i G W W' h3 hk'⟩
def RgS (w W0 : World) (G0 : Nat → Prop) (P : (Nat → Prop) → World → Prop) (G : Nat → Prop) (W : World) : Prop := Below w.heap.size w W ∧ KeepP (fun b => G0 b ∨ W0.heap.size ≤ b) W0 W ∧ P G W
theorem rgS_stab {w W0 : World} {G0 : Nat → Prop} {P : (Nat → Prop) → World → Prop} (h0 : w.heap.size ≤ W0.heap.size) (hP : ∀ G W W', P G W → KeepP (fun b => W0.heap.size ≤ b ∧ ¬ G b ∧ NoCells W b) W W' → P G W') : StabS (RgS w W0 G0 P) W0.heap.size := by
  rintro G W W' ⟨h1, h2, h3⟩ hk
  exact ⟨h1.trans (hk.below (fun b hb => Nat.le_trans h0 hb.1) h1.size), h2.trans (hk.more fun b hb => .inr hb.1), hP G W W' h3 hk⟩
section
variable {P : Program} {ops : Array Oper} {Q : Exit → Act → World → Prop}
theorem region_doLI {l m : Nat} {id : Nat} {draw : Bool} {N : Nat} {g : Nat → Value} {w : World} (hQ : ¬ LetsOut Q) (hd : noDefer ops = true) (Le : World → World → Prop) (hrefl : ∀ a, Le a a) (hdrew : ∀ a, Le a a.drew) (htrans : ∀ a b c, Le a b → Le b c → Le a c) (hsize : ∀ a b, Le a b → a.heap.size ≤ b.heap.size)
    (n : Nat) (al : List (Nat × Nat)) (ds : List (List Nat)) (R : Nat → Value → (Nat → Nat) → World → Prop)
    (hm : P.follows .mixedOrders = true) (hal : okSlots ops al = true) (hok : okWaits ops ds (if draw then n else ops.size) = true) (hn : decide (n ≤ ops.size) = true) (hst : StaysL Le R ds 0 n) (steps : OpsDoL Le P ops Q N al g R w ds 0 n)
    (fin : ∀ f s W, BehindL Le R w n f s W → wpOps P ops Q (List.range' n (ops.size - n)) (fr N (ov al f g)) W) :
    (Code.region id ops draw).wpIn (Fence.wide.inRound l) m P Q (fr N g) w := by
  obtain ⟨f0, hf0, hf1⟩ := ov_start (g := g) hal
  have h := region_addsI (l := l) (m := m) (P := P) (Q := Q) (id := id) (draw := draw) (w := w) (Le := Le) (R := fun i v s W => i < n → R i v s W) (mk := fun f => fr N (ov al f g)) hQ hd n ds f0 hm hok hn
    hrefl hdrew htrans hsize
    (fun i v k W W' hle h hi => by have := (staysL_at n 0 hst i hi).1 v k W W' hle; rw [Nat.zero_add] at this; exact this (h hi))
    (fun i v s s' W he h hi => by have := (staysL_at n 0 hst i hi).2 v s s' W; rw [Nat.zero_add] at this; exact this he (h hi))
    ?_ ?_
  · simp only [hf0] at h; exact h
  · have key : ∀ m i, i + m = n → AddSteps P ops Q Le (fun i v k W => i < n → R i v k W) (fun f => fr N (ov al f g)) w f0 ds i m := by
      intro m
      induction m with
      | zero => intro i _; exact True.intro
      | succ m ih =>
        intro i him
        refine ⟨fun f s W hle hd hlate K hK => ?_, ih (i + 1) (by omega)⟩
        have hsz : i < ops.size := by have := of_decide_eq_true hn; omega
        have ho := Array.getElem?_eq_getElem hsz
        have hdo := opsDoL_at n 0 steps i (by omega) f s W hle
        rw [Nat.zero_add] at hdo
        have hdd : ∀ k, (ds.getD i []).contains k = true → R k (f k) s W ∧ w.heap.size ≤ s k := fun k hk => by
          have hk' : k ∈ ds.getD i [] := by simpa using hk
          have hlt := ((okWaits_at hok ho).1 k hk').1
          have := allIn_mem hd k hk'
          exact ⟨this.1 (by omega), this.2⟩
        refine hdo (fun k hk => (hdd k hk).1) (fun k hk => (hdd k hk).2) (fun p d hp hd' => (hlate p (by simpa using hp)).trans (hf1 (d, p) (by simpa using hd'))) _ (holds_fr _ _ _ _ _) K fun v W' hb hR => ?_
        have := hK v W' hb fun _ => hR
        rw [ho]
        simp only [Option.bind_some]
        rw [okSlots_at hal ho]
        exact this
    exact key n 0 (by omega)
  · rintro f s t W ⟨h1, h2, h3⟩
    exact fin f s W ⟨h1, fun i hi => (h2 i hi).1 hi, fun i hi => (h2 i hi).2.1, t, fun i hi => ⟨(h2 i hi).2.2.1, (h2 i hi).2.2.2.1, (h2 i hi).2.2.2.2.imp fun _ h => ⟨h.1 hi, h.2⟩⟩, fun i j hi hj => h3 i j hi hj⟩
end
theorem keepP_lex {S G : Nat → Prop} {Ps : List (World → Prop)} {a b : World} (h : LeX S Ps a b) (hs : ∀ k, S k → G k) : KeepP G a b :=
  ⟨h.os, h.tape, h.output, h.size, fun k o hk hx => (h.block k (Array.getElem?_eq_some_iff.1 hx).1 (fun e => hk (hs k e))).trans hx⟩
end Go.Proofs.Ytcgccflcjejlhaa
