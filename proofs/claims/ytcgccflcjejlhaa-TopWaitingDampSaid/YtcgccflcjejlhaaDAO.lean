/- Part of the proof: what the claim leans on. -/
import Derived.Test.YtcgccflcjejlhaaDAM
import Derived.Test.YtcgccflcjejlhaaDAN
set_option linter.unusedSimpArgs false
set_option linter.unusedVariables false
namespace Go.Proofs.Ytcgccflcjejlhaa
open Go.RowKit
theorem opDoL_call {P : Program} {ops : Array Oper} {Q : Exit → Act → World → Prop} {Le : World → World → Prop} {i : Nat} {a : Act} {W : World} {R : Value → World → Prop} {o : Oper} {fn : FuncId} {args : Array Value} {post : Ending → World → Prop} (ho : ops[i]? = some o) (hg : o.guard = none) (hr : (execOp a.eval o).run P W = .ok (.enter fn args) W)
    (hc : Calls P fn args W post) (hp : ∀ e W', post e W' → ∃ v, e = .returned v ∧ Le W W' ∧ R v W') : OpDoL Le P ops Q i a W R := by
  intro K hK
  unfold wpOp
  simp only [ho, Region.wanted, hg, if_true]
  refine .inl ?_
  unfold Oper.wp
  rw [hr]
  refine Calls.mono hc fun e W' he => ?_
  obtain ⟨v, rfl, hb, hR⟩ := hp e W' he
  have := hK v W' hb hR
  rw [ho] at this
  exact this
/-- What a passing job leaves. -/
def PasL (V BL nm : Nat) (p : Fp) (g c : Nat) (W : World) : Prop := Ii W (some ⟨g, 0, none⟩) nm c p.st ∧ V ≤ g ∧ g < W.heap.size ∧ TabV 147 12 (lineV p.ln) BL W
def PasR (V BL nm : Nat) (p : Fp) (v : Value) (W : World) : Prop := ∃ g c, v = .tuple #[.slice (some ⟨g, 0, none⟩) nm c, .int .i64 p.at_] ∧ PasL V BL nm p g c W
def PasS (V BL nm : Nat) (p : Fp) (v : Value) (W : World) : Prop := ∃ g c, v = .slice (some ⟨g, 0, none⟩) nm c ∧ PasL V BL nm p g c W
abbrev LePs (BL : Nat) (p : Fp) : World → World → Prop := LeX (fun k => k = BL) [fun W => TabV 147 12 (lineV p.ln) BL W]
theorem PasL.le {V BL nm g c : Nat} {p : Fp} {W W' : World} (hV : BL < V) (h : PasL V BL nm p g c W) (hl : LePs BL p W W') : PasL V BL nm p g c W' :=
  ⟨h.1.keep (keepX_P (leX_keepX hl) rfl) (fun b o e => .inr fun e' => by cases e; have := h.2.1; omega), h.2.1, Nat.lt_of_lt_of_le h.2.2.1 hl.size, hl.stay _ (List.mem_singleton.2 rfl) h.2.2.2⟩
theorem PasL.keepX {V BL nm g c b : Nat} {p : Fp} {W W' : World} (h : PasL V BL nm p g c W) (hk : KeepX b W W') (hb : BL ≠ b) (hV : b < V) : PasL V BL nm p g c W' :=
  ⟨h.1.keep (keepX_P hk rfl) (fun q o e => .inr fun e' => by cases e; have := h.2.1; omega), h.2.1, Nat.lt_of_lt_of_le h.2.2.1 hk.size, h.2.2.2.keepX hk hb⟩
theorem lePs_of {BL : Nat} {p : Fp} {W W' : World} (hk : KeepX BL W W') (h : TabV 147 12 (lineV p.ln) BL W') : LePs BL p W W' :=
  ⟨hk.os, hk.tape, hk.output, hk.size, fun k hlt hn => by
    have hx : W.heap[k]? = some W.heap[k] := Array.getElem?_eq_getElem hlt
    rw [hx]; exact hk.block k _ hn hx, fun q hq _ => by rw [List.mem_singleton.1 hq]; exact h⟩
/-- The starts of the jobs that passed. -/
def StS (V bS nm n : Nat) (od : Nat → Nat) (i : Nat) (st : Nat → List Int) (W : World) : Prop := ∃ f : Nat → Value, TabV 25 n f bS W ∧ ∀ k, k < n → (∃ j, j < i ∧ od j = k) → ∃ g c, f k = .slice (some ⟨g, 0, none⟩) nm c ∧ Ii W (some ⟨g, 0, none⟩) nm c (st k) ∧ V ≤ g ∧ g < W.heap.size
theorem StS.below {V bS nm n i : Nat} {od : Nat → Nat} {st : Nat → List Int} {W W' : World} (h : StS V bS nm n od i st W) (hb : Below W.heap.size W W') : StS V bS nm n od i st W' := by
  obtain ⟨f, h1, h2⟩ := h
  refine ⟨f, h1.below hb, fun k hk hj => ?_⟩
  obtain ⟨g, c, e, h3, h4, h5⟩ := h2 k hk hj
  exact ⟨g, c, e, h3.below hb (Nat.le_refl _), h4, Nat.lt_of_lt_of_le h5 hb.size⟩
theorem StS.keepX {V bS nm n i b : Nat} {od : Nat → Nat} {st : Nat → List Int} {W W' : World} (h : StS V bS nm n od i st W) (hk : KeepX b W W') (hb : bS ≠ b) (hV : b < V) : StS V bS nm n od i st W' := by
  obtain ⟨f, h1, h2⟩ := h
  refine ⟨f, h1.keepX hk hb, fun k hk' hj => ?_⟩
  obtain ⟨g, c, e, h3, h4, h5⟩ := h2 k hk' hj
  exact ⟨g, c, e, h3.keep (keepX_P hk rfl) (fun q o e => .inr fun e' => by cases e; omega), h4, Nat.lt_of_lt_of_le h5 hk.size⟩
theorem StS.other {V bS nm n i b : Nat} {od : Nat → Nat} {st : Nat → List Int} {W W' : World} (h : StS V bS nm n od i st W) (hot : ∀ k x, k ≠ b → W.heap[k]? = some x → W'.heap[k]? = some x) (hz : W.heap.size ≤ W'.heap.size) (hb : bS ≠ b) (hV : b < V) : StS V bS nm n od i st W' := by
  obtain ⟨f, h1, h2⟩ := h
  refine ⟨f, h1.other hot hb, fun k hk' hj => ?_⟩
  obtain ⟨g, c, e, ⟨a0, a1, a2, a3, a4⟩, h4, h5⟩ := h2 k hk' hj
  refine ⟨g, c, e, ⟨a0, a1, a2, a3, ?_⟩, h4, Nat.lt_of_lt_of_le h5 hz⟩
  rcases a4 with a4 | ⟨q, o, e, hlt, hc⟩
  · exact .inl a4
  · refine .inr ⟨q, o, e, Nat.lt_of_lt_of_le hlt hz, fun k hk => ?_⟩
    cases e
    have hb : W.heap[g]? = some W.heap[g] := Array.getElem?_eq_getElem h5
    rw [← hc k hk]
    exact World.cell?_of_block ((hot g _ (by omega) hb).trans hb.symm)
/-- One job more. -/
theorem stS_step {V bS nm n i q : Nat} {od : Nat → Nat} {st : Nat → List Int} {xs : List Int} {W W' : World} {g c : Nat} {f : Nat → Value} (hd : ∀ k, k < n → (∃ j, j < i ∧ od j = k) → ∃ g c, f k = .slice (some ⟨g, 0, none⟩) nm c ∧ Ii W (some ⟨g, 0, none⟩) nm c (st k) ∧ V ≤ g ∧ g < W.heap.size) (hq : od i = q)
    (ht : TabV 25 n (upd f q (.slice (some ⟨g, 0, none⟩) nm c)) bS W') (hot : ∀ k x, k ≠ bS → W.heap[k]? = some x → W'.heap[k]? = some x) (hz : W.heap.size ≤ W'.heap.size) (hV : bS < V) (hI : Ii W (some ⟨g, 0, none⟩) nm c xs) (hg : V ≤ g ∧ g < W.heap.size) : StS V bS nm n od (i + 1) (fun k => if k = od i then xs else st k) W' := by
  have hkeep : ∀ g c ys, Ii W (some ⟨g, 0, none⟩) nm c ys → V ≤ g → g < W.heap.size → Ii W' (some ⟨g, 0, none⟩) nm c ys := fun g c ys h h1 h2 => by
    obtain ⟨a0, a1, a2, a3, a4⟩ := h
    refine ⟨a0, a1, a2, a3, ?_⟩
    rcases a4 with a4 | ⟨b, o, e, hlt, hc⟩
    · exact .inl a4
    · refine .inr ⟨b, o, e, Nat.lt_of_lt_of_le hlt hz, fun k hk => ?_⟩
      cases e
      have hb : W.heap[g]? = some W.heap[g] := Array.getElem?_eq_getElem h2
      rw [← hc k hk]
      exact World.cell?_of_block ((hot g _ (by omega) hb).trans hb.symm)
  refine ⟨_, ht, fun k hk hj => ?_⟩
  by_cases e : k = q
  · subst e
    exact ⟨g, c, upd_same _ _ _, by show Ii W' _ nm c (if k = od i then xs else st k); rw [if_pos hq.symm]; exact hkeep g c xs hI hg.1 hg.2, hg.1, by omega⟩
  · obtain ⟨j, hj1, hj2⟩ := hj
    have hji : j < i := by
      rcases Nat.lt_or_ge j i with h | h
      · exact h
      · obtain rfl : j = i := by omega
        exact absurd (hj2.symm.trans hq) e
    obtain ⟨g', c', e1, e2, e3, e4⟩ := hd k hk ⟨j, hji, hj2⟩
    exact ⟨g', c', by rw [upd_other _ _ e]; exact e1, by show Ii W' _ nm c' (if k = od i then xs else st k); rw [if_neg (fun h => e (h.trans hq))]; exact hkeep g' c' _ e2 e3 e4, e3, by omega⟩
abbrev LeQ (BL BS : Nat) (p : Fp) (S : World → Prop) : World → World → Prop := LeX (fun k => k = BL ∨ k = BS) [fun W => TabV 147 12 (lineV p.ln) BL W, S]
theorem stayQ {BL : Nat} {p : Fp} {S : World → Prop} (hS : ∀ a b, Below a.heap.size a b → S a → S b) : StayB [fun W => TabV 147 12 (lineV p.ln) BL W, S] := fun q hq a b hb h => by
  rcases List.mem_cons.1 hq with rfl | hq
  · exact TabV.below h hb
  · rw [List.mem_singleton.1 hq] at h ⊢; exact hS a b hb h
theorem leX_keepP {S : Nat → Prop} {Ps : List (World → Prop)} {W W' : World} (h : LeX S Ps W W') : KeepP S W W' := ⟨h.os, h.tape, h.output, h.size, fun k o hk hx => (h.block k (lt_of_blk hx) hk).trans hx⟩
theorem PasL.leQ {V BL BS nm g c : Nat} {p : Fp} {S : World → Prop} {W W' : World} (hV : BL < V) (hV2 : BS < V) (h : PasL V BL nm p g c W) (hl : LeQ BL BS p S W W') : PasL V BL nm p g c W' :=
  ⟨h.1.keep (leX_keepP hl) (fun b o e => .inr fun e' => by cases e; have := h.2.1; omega), h.2.1, Nat.lt_of_lt_of_le h.2.2.1 hl.size, hl.stay _ (.head _) h.2.2.2⟩
theorem pasRQ_k {V BL BS nm i : Nat} {p : Fp} {S : World → Prop} {ds : List (List Nat)} (hV : BL < V) (hV2 : BS < V) : KeepsL (LeQ BL BS p S) ds i (fun v _ W => PasR V BL nm p v W) :=
  ⟨fun _ _ _ _ hl ⟨g, c, e, h⟩ => ⟨g, c, e, h.leQ hV hV2 hl⟩, fun _ _ _ _ _ h => h⟩
theorem pasSQ_k {V BL BS nm i : Nat} {p : Fp} {S : World → Prop} {ds : List (List Nat)} (hV : BL < V) (hV2 : BS < V) : KeepsL (LeQ BL BS p S) ds i (fun v _ W => PasS V BL nm p v W) :=
  ⟨fun _ _ _ _ hl ⟨g, c, e, h⟩ => ⟨g, c, e, h.leQ hV hV2 hl⟩, fun _ _ _ _ _ h => h⟩
theorem stsQ_k {BL BS i : Nat} {p : Fp} {S : World → Prop} {ds : List (List Nat)} : KeepsL (LeQ BL BS p S) ds i (fun _ _ W => S W) := ⟨fun _ _ _ _ hl h => hl.stay _ (.tail _ (.head _)) h, fun _ _ _ _ _ h => h⟩
theorem leQ_call {BL BS : Nat} {p : Fp} {S : World → Prop} {W W' : World} (h : LePs BL p W W') (hS : S W → S W') : LeQ BL BS p S W W' :=
  ⟨h.os, h.tape, h.output, h.size, fun k hk hn => h.block k hk (fun e => hn (.inl e)), fun q hq hq2 => by
    rcases List.mem_cons.1 hq with rfl | hq
    · exact h.stay _ (.head _) hq2
    · rw [List.mem_singleton.1 hq] at hq2 ⊢; exact hS hq2⟩
theorem leQ_store {BL BS : Nat} {p : Fp} {S : World → Prop} {W W' : World} (hk : KeepX BS W W') (hne : BL ≠ BS) (hS : S W') : LeQ BL BS p S W W' :=
  ⟨hk.os, hk.tape, hk.output, hk.size, fun k hlt hn => by
    have hx : W.heap[k]? = some W.heap[k] := Array.getElem?_eq_getElem hlt
    rw [hx]; exact hk.block k _ (fun e => hn (.inr e)) hx, fun q hq hq2 => by
    rcases List.mem_cons.1 hq with rfl | hq
    · exact TabV.keepX hq2 hk hne
    · rw [List.mem_singleton.1 hq]; exact hS⟩
theorem tabV_en {n b q : Nat} {en : Nat → Int} {x : Int} {W : World} (h : TabV 3 n (upd (fun k => Value.int .i64 (en k)) q (.int .i64 x)) b W) : TabV 3 n (fun k => .int .i64 (if k = q then x else en k)) b W :=
  h.eq fun k _ => by
    by_cases e : k = q
    · rw [e, upd_same, if_pos rfl]
    · rw [upd_other _ _ e, if_neg e]
set_option maxRecDepth 100000 in
set_option maxHeartbeats 16000000 in
theorem run_3 (nm ns : Nat) (CH : List (List Int)) (x : Fs) (js : Nat → Fj) (bc oc cc bs os_ sc bj oj cj : Nat) (sa : Option Addr) (adc : Nat → Option Addr) (kpc : Nat → Nat) (adj : Nat → Option Addr) (kpj : Nat → Nat) (od : Nat → Nat) (ao : Option Addr) (no co : Nat) (xs : List Int) (w : World) (hF : FlOk nm ns 3 CH x js) (hM : FlR nm ns 3 CH js x bc oc bs os_ bj oj sa adc kpc adj kpj w) (hX : Ii w ao no co xs) (hno : no = 3) (hod : ∀ i, i < 3 → elT xs i = ((od i : Nat) : Int) ∧ od i < 3) :
  Calls Try.prog 25 #[.agg #[.int .i64 ((nm : Int)), .slice (some ⟨bc, oc, none⟩) (2) (cc), .slice (sa) (ns) (sc), .slice (some ⟨bj, oj, none⟩) (3) (cj)], .slice (ao) (no) (co)] w (fun e w' => ∃ bS bE V, e = .returned (.agg #[.slice (some ⟨bS, 0, none⟩) 3 3, .slice (some ⟨bE, 0, none⟩) 3 3]) ∧ StS V bS nm 3 od 3 (runF (freeK ns x) (chK CH) nm js od 3).st w' ∧ TabV 3 3 (fun k => Value.int .i64 ((runF (freeK ns x) (chK CH) nm js od 3).en k)) bE w' ∧ w.heap.size ≤ bS ∧ w.heap.size ≤ bE ∧ Below w.heap.size w w') := by
 have gn_ := hF.nmB
 have gT_ : x.t ≤ 2000 := hF.xt.2
 obtain ⟨bo_, oo_, hXo_⟩ := hX.open
 have hXa_ := (hXo_ (by omega)).1
 have hXc_ := (hXo_ (by omega)).2
 refine calls_fr Try.func25 Try.ntmps25 rfl rfl fun g hg => ?_
 have k0 : g 0 = .agg #[.int .i64 ((nm : Int)), .slice (some ⟨bc, oc, none⟩) (2) (cc), .slice (sa) (ns) (sc), .slice (some ⟨bj, oj, none⟩) (3) (cj)] := hg 0
 have k1 : g 1 = .slice (ao) (no) (co) := hg 1
 clear hg
 have fB0 : Below w.heap.size w w := Below.refl _ _
 refine wp_seq_k fun K1 hK1 => ?_
 refine region_dk 2 [(2, 0), (4, 1)] [[], []] (rel [bx 0 #[.int .i64 ((nm : Int)), .slice (some ⟨bc, oc, none⟩) (2) (cc), .slice (sa) (ns) (sc), .slice (some ⟨bj, oj, none⟩) (3) (cj)] 94,
   bx 1 #[.slice (none) (0) (0), .slice (none) (0) (0)] 98])
  ⟨bx_k, bx_k, trivial⟩
  ⟨fun f s W l m n r u d => opb rfl rfl (by simp [go_sem, d.e 0 k0]),
  fun f s W l m n r u d => opb rfl rfl (by simp [go_sem]), trivial⟩ ?_
 intro f1 s1 W1 hB1 g1 hg1
 have fB1 := hB1.f fB0
 have z1 := hB1.below.size
 obtain ⟨r1_0, br1_0⟩ := hB1.is 0
 have lr1_0 := hB1.lr 0 br1_0
 obtain ⟨r1_1, br1_1⟩ := hB1.is 1
 have lr1_1 := hB1.lr 1 br1_1
 have ne1_0_1 := hB1.nb 0 1
 refine hK1 _ _ ?_
 have k1_1 := kt hg1 1 k1
 have k1_2 := kt hg1 2 r1_0
 have k1_4 := kt hg1 4 r1_1
 refine wp_seq_k fun K2 hK2 => ?_
 refine region_dk 10 [(9, 0), (10, 1), (11, 2), (12, 3), (13, 4), (14, 5), (15, 6), (16, 7), (17, 8), (5, 9)] [[], [0], [0, 1], [0, 1, 2], [], [4], [4, 5], [4, 5, 6], [0, 1, 2, 3, 4, 5, 6, 7], [], [0, 1, 2, 3, 4, 5, 6, 7, 8, 9]] (rel [is (.pointer (some ⟨(s1 0), 3, none⟩)),
   is (.slice (some ⟨bj, oj, none⟩) (3) (cj)),
   is (.int .i64 3),
   row 3 3 #[.slice (none) (0) (0), .slice (none) (0) (0), .slice (none) (0) (0)] 25,
   is (.pointer (some ⟨(s1 0), 3, none⟩)),
   is (.slice (some ⟨bj, oj, none⟩) (3) (cj)),
   is (.int .i64 3),
   row 7 3 #[.int .i64 0, .int .i64 0, .int .i64 0] 3,
   isS fun s => .agg #[.slice (some ⟨(s 3), 0, none⟩) (3) (3), .slice (some ⟨(s 7), 0, none⟩) (3) (3)],
   bx 9 #[.slice (none) (0) (0), .slice (none) (0) (0)] 98])
  ⟨is_k, is_k, is_k, row_k, is_k, is_k, is_k, row_k, isS_k fun s s' e => by rw [e 3 (by simp), e 7 (by simp)], bx_k, trivial⟩
  ⟨fun f s W l m n r u d => opv rfl rfl (by simp [go_sem, d.e 2 k1_2]) rfl,
  fun f s W l m n r u d => opv rfl rfl (by simp [go_sem, d.e 9 (m 0 rfl), cb br1_0 l 3]) rfl,
  fun f s W l m n r u d => opv rfl rfl (by simp [go_sem, d.e 10 (m 1 rfl)]) rfl,
  fun f s W l m n r u d => opr rfl rfl (by simp [go_sem, d.e 11 (m 2 rfl)]; kernel_rfl),
  fun f s W l m n r u d => opv rfl rfl (by simp [go_sem, d.e 2 k1_2]) rfl,
  fun f s W l m n r u d => opv rfl rfl (by simp [go_sem, d.e 13 (m 4 rfl), cb br1_0 l 3]) rfl,
  fun f s W l m n r u d => opv rfl rfl (by simp [go_sem, d.e 14 (m 5 rfl)]) rfl,
  fun f s W l m n r u d => opr rfl rfl (by simp [go_sem, d.e 15 (m 6 rfl)]; kernel_rfl),
  fun f s W l m n r u d => opv rfl rfl (by simp [go_sem, d.e 12 (m 3 rfl).1, d.e 16 (m 7 rfl).1, upd]) rfl,
  fun f s W l m n r u d => opb rfl rfl (by simp [go_sem]), trivial⟩ ?_
 intro f2 s2 W2 hB2 g2 hg2
 have fB2 := hB2.f fB1
 have z2 := hB2.below.size
 have b2_0 := hB2.b br1_0
 have b2_1 := hB2.b br1_1
 obtain ⟨r2_3, br2_3⟩ := hB2.is 3
 have lr2_3 := hB2.lr 3 br2_3
 obtain ⟨r2_7, br2_7⟩ := hB2.is 7
 have lr2_7 := hB2.lr 7 br2_7
 obtain ⟨r2_9, br2_9⟩ := hB2.is 9
 have lr2_9 := hB2.lr 9 br2_9
 have ne2_3_7 := hB2.nb 3 7
 have ne2_3_9 := hB2.nb 3 9
 have ne2_7_9 := hB2.nb 7 9
 have k2_1 := kt hg2 1 k1_1
 have k2_2 := kt hg2 2 k1_2
 have k2_4 := kt hg2 4 k1_4
 have k2_17 := kt hg2 17 (hB2.is 8)
 have k2_5 := kt hg2 5 r2_9
 obtain ⟨W3, hW3⟩ : ∃ W', W' = W2.setRow (s2 9) #[.slice (some ⟨(s2 3), 0, none⟩) (3) (3), .slice (some ⟨(s2 7), 0, none⟩) (3) (3)] := ⟨_, rfl⟩
 refine tail_skip (o := _) rfl ⟨rfl, rfl⟩ (run_seg hW3 (fr_ev k2_5) (fr_ev k2_17) br2_9 rfl rfl rfl rfl) ?_
 obtain ⟨fB3, nb3, ot3, z3⟩ := seg_facts hW3 fB2 br2_9 (by omega)
 clear hW3
 have b3_0 := ot3 _ _ (by omega) b2_0
 have b3_1 := ot3 _ _ (by omega) b2_1
 have b3_2 := ot3 _ _ (by omega) br2_3
 have b3_3 := ot3 _ _ (by omega) br2_7
 refine wpOps_end ?_
 refine hK2 _ _ ?_
 refine wp_seq_k fun K3 hK3 => ?_
 refine region_dk 1 [(6, 0)] [[]] (rel [bx 0 #[.int .i64 0, .int .i64 0, .bool false, .int .i64 0, .int .i64 0, .bool false, .int .i64 0, .int .i64 0, .bool false, .int .i64 0, .int .i64 0, .bool false] 147])
  ⟨bx_k, trivial⟩
  ⟨fun f s W l m n r u d => opb rfl rfl (by simp [go_sem]), trivial⟩ ?_
 intro f4 s4 W4 hB4 g4 hg4
 have fB4 := hB4.f fB3
 have z4 := hB4.below.size
 have b4_0 := hB4.b b3_0
 have b4_1 := hB4.b b3_1
 have b4_2 := hB4.b b3_2
 have b4_3 := hB4.b b3_3
 have b4_4 := hB4.b nb3
 obtain ⟨r4_0, br4_0⟩ := hB4.is 0
 have lr4_0 := hB4.lr 0 br4_0
 refine hK3 _ _ ?_
 have k4_1 := kt hg4 1 k2_1
 have k4_2 := kt hg4 2 k2_2
 have k4_4 := kt hg4 4 k2_4
 have k4_5 := kt hg4 5 k2_5
 have k4_6 := kt hg4 6 r4_0
 have tL0 : TabV 147 12 (lineV (runF (freeK ns x) (chK CH) nm js od 0).ln) (s4 0) W4 := TabV.list br4_0 rfl (fun i hi => by match i, hi with | 0, _ => rfl | 1, _ => rfl | 2, _ => rfl | 3, _ => rfl | 4, _ => rfl | 5, _ => rfl | 6, _ => rfl | 7, _ => rfl | 8, _ => rfl | 9, _ => rfl | 10, _ => rfl | 11, _ => rfl)
 have tS0 : StS W4.heap.size (s2 3) nm 3 od 0 (runF (freeK ns x) (chK CH) nm js od 0).st W4 := ⟨fun _ => .slice none 0 0, TabV.list b4_2 rfl (fun i hi => by match i, hi with | 0, _ => rfl | 1, _ => rfl | 2, _ => rfl), fun k hk ⟨j, hj, _⟩ => absurd hj (Nat.not_lt_zero _)⟩
 have tE0 : TabV 3 3 (fun k => Value.int .i64 ((runF (freeK ns x) (chK CH) nm js od 0).en k)) (s2 7) W4 := TabV.list b4_3 rfl (fun i hi => by match i, hi with | 0, _ => rfl | 1, _ => rfl | 2, _ => rfl)
 have lL_ := tL0.lt; have lS_ := lt_of_blk b4_2; have lE_ := tE0.lt
 obtain ⟨BL, hBL_⟩ : ∃ b, (s4 0) = b := ⟨_, rfl⟩
 obtain ⟨BS, hBS_⟩ : ∃ b, (s2 3) = b := ⟨_, rfl⟩
 obtain ⟨BE, hBE_⟩ : ∃ b, (s2 7) = b := ⟨_, rfl⟩
 obtain ⟨V_, hV_⟩ : ∃ V, W4.heap.size = V := ⟨_, rfl⟩
 have h5_ := b4_4; rw [hBS_, hBE_] at h5_; rw [hBL_] at tL0; rw [hBS_, hV_] at tS0; rw [hBE_] at tE0; have k6_ : g4 6 = .pointer (some ⟨BL, 0, none⟩) := hBL_ ▸ k4_6
 have d1_ : BL ≠ BS := (by omega); have d2_ : BL ≠ BE := (by omega); have d3_ : BS ≠ BE := (by omega); have g1b_ : w.heap.size ≤ BL ∧ BL < V_ := (by omega); have g2b_ : w.heap.size ≤ BS ∧ BS < V_ := (by omega); have g3b_ : w.heap.size ≤ BE ∧ BE < V_ := (by omega); have hVW_ : V_ ≤ W4.heap.size := (by omega)
 have e_s10 : (s1 0) ≠ BL ∧ (s1 0) ≠ BS ∧ (s1 0) ≠ BE ∧ (s1 0) < V_ := by have := lt_of_blk b4_0; omega
 have e_s11 : (s1 1) ≠ BL ∧ (s1 1) ≠ BS ∧ (s1 1) ≠ BE ∧ (s1 1) < V_ := by have := lt_of_blk b4_1; omega
 have e_s29 : (s2 9) ≠ BL ∧ (s2 9) ≠ BS ∧ (s2 9) ≠ BE ∧ (s2 9) < V_ := by have := lt_of_blk b4_4; omega
 refine wp_seq_k fun K4 hK4 => ?_
 refine wp_seq_k fun K5 hK5 => ?_
 refine region_dk 3 [(18, 0), (19, 1), (20, 2)] [[], [0], []] (rel [is (.slice (ao) (no) (co)),
   is (.int .i64 ((no : Int))),
   is (.int .i64 0)])
  ⟨is_k, is_k, is_k, trivial⟩
  ⟨fun f s W l m n r u d => opv rfl rfl (by simp [go_sem, d.e 1 k4_1]) rfl,
  fun f s W l m n r u d => opv rfl rfl (by simp [go_sem, d.e 18 (m 0 rfl)]) rfl,
  fun f s W l m n r u d => opv rfl rfl (by simp [go_sem]) rfl, trivial⟩ ?_
 intro f5 s5 W5 hB5 g5 hg5
 have fB5 := hB5.f fB4
 have z5 := hB5.below.size
 have b5_0 := hB5.b b4_0
 have b5_1 := hB5.b b4_1
 have b5_2 := hB5.b h5_
 have q1' := (TabV.below tL0 hB5.below)
 have q2' := (StS.below tS0 hB5.below)
 have q3' := (TabV.below tE0 hB5.below)
 refine hK5 _ _ ?_
 have k5_2 := kt hg5 2 k4_2
 have k5_4 := kt hg5 4 k4_4
 have k5_5 := kt hg5 5 k4_5
 have k5_6 := kt hg5 6 k6_
 have k5_18 := kt hg5 18 (hB5.is 0)
 have k5_19 := kt hg5 19 (hB5.is 1)
 have k5_20 := kt hg5 20 (hB5.is 2)
 refine wp_block ?_
 refine wp_loop_n (fun m_ a_ W_ => ∃ g_ : Nat → Value, a_ = fr 44 g_ ∧ (∃ i : Nat, m_ = 3 - i ∧ g_ 2 = .pointer (some ⟨(s1 0), 0, none⟩) ∧ g_ 4 = .pointer (some ⟨(s1 1), 0, none⟩) ∧ g_ 5 = .pointer (some ⟨(s2 9), 0, none⟩) ∧ g_ 6 = .pointer (some ⟨BL, 0, none⟩) ∧ g_ 18 = .slice (ao) (no) (co) ∧ g_ 19 = .int .i64 ((no : Int)) ∧ g_ 20 = .int .i64 ((i : Int)) ∧ Below w.heap.size w W_ ∧ W5.heap.size ≤ W_.heap.size ∧ W_.heap[(s1 0)]? = some (.cells #[.int .i64 ((nm : Int)), .slice (some ⟨bc, oc, none⟩) (2) (cc), .slice (sa) (ns) (sc), .slice (some ⟨bj, oj, none⟩) (3) (cj)] 94 (0, 0)) ∧ W_.heap[(s1 1)]? = some (.cells #[.slice (none) (0) (0), .slice (none) (0) (0)] 98 (0, 0)) ∧ W_.heap[(s2 9)]? = some (.cells #[.slice (some ⟨BS, 0, none⟩) (3) (3), .slice (some ⟨BE, 0, none⟩) (3) (3)] 98 (0, 0)) ∧ TabV 147 12 (lineV (runF (freeK ns x) (chK CH) nm js od i).ln) BL W_ ∧ StS V_ BS nm 3 od i (runF (freeK ns x) (chK CH) nm js od i).st W_ ∧ TabV 3 3 (fun k => Value.int .i64 ((runF (freeK ns x) (chK CH) nm js od i).en k)) BE W_ ∧ (i ≤ 3))) ⟨_, g5, rfl, 0, rfl, k5_2, k5_4, k5_5, k5_6, k5_18, k5_19, k5_20.trans (by rfl), fB5, Nat.le_refl _, b5_0, b5_1, b5_2, q1', q2', q3', (by omega)⟩ ?_
 rintro _ _ W_4 ⟨g_4, rfl, i, rfl, k_4_2, k_4_4, k_4_5, k_4_6, k_4_18, k_4_19, k_4_20, fB_4, z_4, b_4_0, b_4_1, b_4_2, q5', q6', q7', lk0⟩
 refine wp_seq_k fun K6 hK6 => ?_
 refine region_dk 1 [(21, 0)] [[]] (rel [is (.bool (decide ((i : Int) < (no : Int))))])
  ⟨is_k, trivial⟩
  ⟨fun f s W l m n r u d => opv rfl rfl (by simp [go_sem, d.e 20 k_4_20, d.e 19 k_4_19]) rfl, trivial⟩ ?_
 intro f6 s6 W6 hB6 g6 hg6
 have fB6 := hB6.f fB_4
 have z6 := hB6.below.size
 have b6_0 := hB6.b b_4_0
 have b6_1 := hB6.b b_4_1
 have b6_2 := hB6.b b_4_2
 have q8' := (TabV.below q5' hB6.below)
 have q9' := (StS.below q6' hB6.below)
 have q10' := (TabV.below q7' hB6.below)
 refine hK6 _ _ ?_
 have k6_2 := kt hg6 2 k_4_2
 have k6_4 := kt hg6 4 k_4_4
 have k6_5 := kt hg6 5 k_4_5
 have k6_6 := kt hg6 6 k_4_6
 have k6_18 := kt hg6 18 k_4_18
 have k6_19 := kt hg6 19 k_4_19
 have k6_20 := kt hg6 20 k_4_20
 have k6_21 := kt hg6 21 (hB6.is 0)
 refine wp_seq_k fun K7 hK7 => ?_
 refine wp_cond_split (t := decide ((i : Int) < (no : Int))) ((fr_eval rfl).trans k6_21) (fun hc8 => ?_) (fun hc8 => ?_)
 ·
  have hc8' := hc8; try simp only [ba] at hc8'
  have hin_ : i < 3 := by omega
  obtain ⟨oi_, hoi_⟩ : ∃ o, od i = o := ⟨_, rfl⟩
  have hoe_ : elT xs i = ((oi_ : Nat) : Int) := hoi_ ▸ (hod i hin_).1
  have hoi1_ : oi_ < 3 := hoi_ ▸ (hod i hin_).2
  have hrb_ := runF_bd (freeK_in (ns := ns) gT_) (chK_bd hF) gn_.2 (by omega) (Int.le_refl 2000) hF.jb od i
  have hLi_ := hrb_.1
  refine wp_skip ?_
  refine hK7 _ _ ?_
  refine wp_seq_k fun K9 hK9 => ?_
  refine wp_block ?_
  refine wp_seq_k fun K10 hK10 => ?_
  refine region_dk 3 [(22, 0), (23, 1), (8, 2)] [[], [0], [0, 1]] (rel [is (.pointer (some ⟨bo_, oo_ + i, none⟩)),
   is (.int .i64 (((oi_ : Nat) : Int))),
   is (.int .i64 (((oi_ : Nat) : Int)))])
   ⟨is_k, is_k, is_k, trivial⟩
   ⟨fun f s W l m n r u d => by have hab := hXa_; have li_ := Nat.not_le.2 (show i < no by omega); have li2_ : (i : Int) < (no : Int) := (by omega); exact opv rfl rfl (by simp [go_sem, d.e 18 k6_18, d.e 20 k6_20, hab, li_, li2_]) rfl,
  fun f s W l m n r u d => by have y := below_trans fB6 l; have cu_ := hXc_ W y i (by omega); rw [hoe_] at cu_; exact opv rfl rfl (by simp [go_sem, d.e 22 (m 0 rfl), cu_]) rfl,
  fun f s W l m n r u d => opv rfl rfl (by simp [go_sem, d.e 23 (m 1 rfl)]) rfl, trivial⟩ ?_
  intro f7 s7 W7 hB7 g7 hg7
  have fB7 := hB7.f fB6
  have z7 := hB7.below.size
  have b7_0 := hB7.b b6_0
  have b7_1 := hB7.b b6_1
  have b7_2 := hB7.b b6_2
  have q11' := (TabV.below q8' hB7.below)
  have q12' := (StS.below q9' hB7.below)
  have q13' := (TabV.below q10' hB7.below)
  refine hK10 _ _ ?_
  have k7_2 := kt hg7 2 k6_2
  have k7_4 := kt hg7 4 k6_4
  have k7_5 := kt hg7 5 k6_5
  have k7_6 := kt hg7 6 k6_6
  have k7_18 := kt hg7 18 k6_18
  have k7_19 := kt hg7 19 k6_19
  have k7_20 := kt hg7 20 k6_20
  have k7_8 := kt hg7 8 (hB7.is 2)
  obtain ⟨pq_, hpq_⟩ : ∃ p, (passF (freeK ns x) (chK CH) (js oi_) (runF (freeK ns x) (chK CH) nm js od i).ln nm) = p := ⟨_, rfl⟩
  have ltV_ : BL < W7.heap.size := by omega
  have ltV2_ : BS < W7.heap.size := by omega
  obtain ⟨SS_, hSS_⟩ : ∃ S : World → Prop, (fun W => StS V_ BS nm 3 od (i + 1) (fun k => if k = od i then pq_.st else (runF (freeK ns x) (chK CH) nm js od i).st k) W) = S := ⟨_, rfl⟩
  have hSb_ : ∀ a b, Below a.heap.size a b → SS_ a → SS_ b := fun a b h h0 => by rw [← hSS_] at h0 ⊢; exact StS.below h0 h
  obtain ⟨ff_, hft_, hfd_⟩ := q12'
  obtain ⟨UU_, hUU_⟩ : ∃ U : Nat → World → Prop, U = fun k a => (k = 12 → Below W7.heap.size W7 a) ∧ (k = 17 → TabV 25 3 ff_ BS a) := ⟨_, rfl⟩
  have hbl_ : ∀ a b, Below a.heap.size a b → LeQ BL BS pq_ SS_ a b := LeX.of_below (stayQ hSb_)
  have hub_ : ∀ k a b, Below a.heap.size a b → UU_ k a → UU_ k b := fun k a b h h0 => by rw [hUU_] at h0 ⊢; exact ⟨fun e => below_trans (h0.1 e) h, fun e => TabV.below (h0.2 e) h⟩
  have hlo_ : ∀ k, k = BL ∨ k = BS → w.heap.size ≤ k := fun k e => by rcases e with e | e <;> subst e <;> omega
  have nb_s10 : ¬ ((s1 0) = BL ∨ (s1 0) = BS) := by omega
  have nb_s11 : ¬ ((s1 1) = BL ∨ (s1 1) = BS) := by omega
  have nb_s29 : ¬ ((s2 9) = BL ∨ (s2 9) = BS) := by omega
  refine region_doV UU_ (LeQ BL BS pq_ SS_) (fun k => by rw [hUU_]; exact ⟨fun _ => Below.refl _ _, fun _ => hft_⟩) (fun k a h => hub_ k _ _ (Below.refl _ _).drew h) LeX.refl (LeX.drew (stayQ hSb_)) LeX.trans (fun _ _ h => h.size) 18 [(25, 0), (26, 1), (27, 2), (28, 3), (29, 4), (30, 5), (31, 6), (32, 7), (33, 8), (34, 9), (35, 10), (36, 11), (37, 12), (24, 13), (38, 14), (39, 15), (40, 16), (41, 18)] [[], [0], [], [], [3], [], [], [], [7], [], [7, 8, 9], [7, 8, 9, 10], [6, 7, 8, 9, 10, 11], [6, 7, 8, 9, 10, 11, 12], [6, 7, 8, 9, 10, 11, 12, 13], [6, 7, 8, 9, 10, 11, 12, 13], [0, 1, 2, 6, 7, 8, 9, 10, 11, 12, 13, 14], [0, 1, 2, 6, 7, 8, 9, 10, 11, 12, 13, 14, 16], [0, 1, 2, 3, 4, 5, 6, 7, 8, 9, 10, 11, 12, 13, 14, 15, 16, 17], [0, 1, 2, 3, 4, 5, 6, 7, 8, 9, 10, 11, 12, 13, 14, 15, 16, 17, 18]] (rel [is (.pointer (some ⟨(s2 9), 0, none⟩)),
   is (.slice (some ⟨BS, 0, none⟩) (3) (3)),
   is (.int .i64 (((oi_ : Nat) : Int))),
   is (.pointer (some ⟨(s2 9), 1, none⟩)),
   is (.slice (some ⟨BE, 0, none⟩) (3) (3)),
   is (.int .i64 (((oi_ : Nat) : Int))),
   is (.agg #[.int .i64 ((nm : Int)), .slice (some ⟨bc, oc, none⟩) (2) (cc), .slice (sa) (ns) (sc), .slice (some ⟨bj, oj, none⟩) (3) (cj)]),
   is (.pointer (some ⟨(s1 0), 3, none⟩)),
   is (.slice (some ⟨bj, oj, none⟩) (3) (cj)),
   is (.int .i64 (((oi_ : Nat) : Int))),
   is (.pointer (some ⟨bj, oj + oi_ * 4, none⟩)),
   is (.agg #[.int .i64 (((js oi_).kd : Int)), .int .i64 ((js oi_).rd), .int .i64 ((js oi_).du), .slice ((adj oi_)) ((js oi_).ms.length) ((kpj oi_))]),
   fun v _ W => PasR W7.heap.size BL nm pq_ v W,
   fun v _ W => PasR W7.heap.size BL nm pq_ v W,
   fun v _ W => PasS W7.heap.size BL nm pq_ v W,
   is (.int .i64 pq_.at_),
   is (.pointer (some ⟨BS, oi_, none⟩)),
   fun _ _ W => SS_ W]) (by kernel_rfl) (by kernel_rfl) (by kernel_rfl) (by kernel_rfl)
   ⟨is_kl, is_kl, is_kl, is_kl, is_kl, is_kl, is_kl, is_kl, is_kl, is_kl, is_kl, is_kl, pasRQ_k ltV_ ltV2_, pasRQ_k ltV_ ltV2_, pasSQ_k ltV_ ltV2_, is_kl, is_kl, stsQ_k, trivial⟩
   ⟨fun f s W l hU m n r u d => OpDo.v hbl_ hub_ (opv rfl rfl (by simp [go_sem, d.e 5 k7_5]) rfl),
  fun f s W l hU m n r u d => OpDo.v hbl_ hub_ (opv rfl rfl (by simp [go_sem, d.e 25 (m 0 rfl), cl (blk_x b7_2 l nb_s29) 0]) rfl),
  fun f s W l hU m n r u d => OpDo.v hbl_ hub_ (opv rfl rfl (by simp [go_sem, d.e 8 k7_8]) rfl),
  fun f s W l hU m n r u d => OpDo.v hbl_ hub_ (opv rfl rfl (by simp [go_sem, d.e 5 k7_5]) rfl),
  fun f s W l hU m n r u d => OpDo.v hbl_ hub_ (opv rfl rfl (by simp [go_sem, d.e 28 (m 3 rfl), cl (blk_x b7_2 l nb_s29) 1]) rfl),
  fun f s W l hU m n r u d => OpDo.v hbl_ hub_ (opv rfl rfl (by simp [go_sem, d.e 8 k7_8]) rfl),
  fun f s W l hU m n r u d => OpDo.v hbl_ hub_ (opl rfl rfl rfl (d.v 2 k7_2) (blk_x b7_0 l nb_s10) Try.underlying94 rfl (by kernel_rfl) rfl),
  fun f s W l hU m n r u d => OpDo.v hbl_ hub_ (opv rfl rfl (by simp [go_sem, d.e 2 k7_2]) rfl),
  fun f s W l hU m n r u d => OpDo.v hbl_ hub_ (opv rfl rfl (by simp [go_sem, d.e 32 (m 7 rfl), cl (blk_x b7_0 l nb_s10) 3]) rfl),
  fun f s W l hU m n r u d => OpDo.v hbl_ hub_ (opv rfl rfl (by simp [go_sem, d.e 8 k7_8]) rfl),
  fun f s W l hU m n r u d => OpDo.v hbl_ hub_ (by have li_ := Nat.not_le.2 hoi1_; have li2_ : ((oi_ : Nat) : Int) < 3 := (by omega); exact opv rfl rfl (by simp [go_sem, d.e 33 (m 8 rfl), d.e 34 (m 9 rfl), li_, li2_]) rfl),
  fun f s W l hU m n r u d => OpDo.v hbl_ hub_ (by have y := (fB7).trans (l.below (fB7).size hlo_); obtain ⟨cu0_, cu1_, cu2_, cu3_, -⟩ := (hM.j.below y).2 oi_ (by omega); exact opv rfl rfl (by simp [go_sem, d.e 35 (m 10 rfl), cu0_, cu1_, cu2_, cu3_]) rfl),
  fun f s W l hU m n r u d => by rw [hUU_] at hU; have hU1 := hU.1 rfl; exact OpDoL.v (Le' := LePs BL pq_) (fun W' h => leQ_call h (fun h0 => by rw [← hSS_] at h0 ⊢; exact StS.keepX h0 (leX_keepX h) (by omega) (by omega))) (fun W' h k hk _ h0 => by rw [hUU_] at h0 ⊢; exact ⟨fun e => absurd e hk, fun e => TabV.keepX (h0.2 e) (leX_keepX h) (by omega)⟩) (opDoL_call (args := #[.agg #[.int .i64 ((nm : Int)), .slice (some ⟨bc, oc, none⟩) (2) (cc), .slice (sa) (ns) (sc), .slice (some ⟨bj, oj, none⟩) (3) (cj)], .pointer (some ⟨BL, 0, none⟩), .agg #[.int .i64 (((js oi_).kd : Int)), .int .i64 ((js oi_).rd), .int .i64 ((js oi_).du), .slice ((adj oi_)) ((js oi_).ms.length) ((kpj oi_))]]) rfl rfl (by simp [go_sem, d.e 31 (m 6 rfl), d.e 6 k7_6, d.e 36 (m 11 rfl)]) (pass_any nm ns 3 CH x js bc oc cc bs os_ sc bj oj cj sa adc kpc adj kpj oi_ BL hF hM hoi1_ (runF (freeK ns x) (chK CH) nm js od i).ln (2000 + 2040 * (i : Int)) hLi_ (by omega) W (below_trans fB7 hU1) (TabV.below q11' hU1) (by omega)) (fun e W' h => by obtain ⟨g_, c_, e1, h1, h2, h3, h4, h5⟩ := h; rw [hpq_] at e1 h1 h5; exact ⟨_, e1, lePs_of h4 h5, ⟨g_, c_, rfl, h1, Nat.le_trans hU1.size h2, h3, h5⟩⟩)),
  fun f s W l hU m n r u d => by obtain ⟨g_, c_, e_, h_⟩ := m 12 rfl; exact OpDo.v hbl_ hub_ (opDo_value (v := .tuple #[.slice (some ⟨g_, 0, none⟩) nm c_, .int .i64 pq_.at_]) rfl rfl (by simp [go_sem, d.e 37 e_]) (Below.refl _ _) ⟨g_, c_, rfl, h_⟩),
  fun f s W l hU m n r u d => by obtain ⟨g_, c_, e_, h_⟩ := m 13 rfl; exact OpDo.v hbl_ hub_ (opDo_value (v := .slice (some ⟨g_, 0, none⟩) nm c_) rfl rfl (by simp [go_sem, d.e 24 e_]) (Below.refl _ _) ⟨g_, c_, rfl, h_⟩),
  fun f s W l hU m n r u d => by obtain ⟨g_, c_, e_, h_⟩ := m 13 rfl; exact OpDo.v hbl_ hub_ (opv rfl rfl (by simp [go_sem, d.e 24 e_]) rfl),
  fun f s W l hU m n r u d => OpDo.v hbl_ hub_ (by have li_ := Nat.not_le.2 hoi1_; have li2_ : ((oi_ : Nat) : Int) < 3 := (by omega); exact opv rfl rfl (by simp [go_sem, d.e 26 (m 1 rfl), d.e 27 (m 2 rfl), li_, li2_]) rfl),
  fun f s W l hU m n r u d => by rw [hUU_] at hU; have hU1 := hU.2 rfl; obtain ⟨g_, c_, e_, h_⟩ := m 14 rfl; have fW_ := (fB7).trans (l.below (fB7).size hlo_); obtain ⟨W', st_, tb_, ot_, z_, fB_⟩ := storeV_tail (P := Try.prog) (ty := 25) (i := oi_) (x := .slice (some ⟨g_, 0, none⟩) nm c_) hoi1_ fW_ hU1 (by omega) (by kernel_rfl) rfl rfl; have kx_ : KeepX BS W W' := ⟨fB_.os.trans fW_.os.symm, fB_.tape.trans fW_.tape.symm, fB_.output.trans fW_.output.symm, z_, ot_⟩; have sn_ : SS_ W' := by {rw [← hSS_]; exact stS_step (i := i) (fun k hk hj => by obtain ⟨g, c, a1, a2, a3, a4⟩ := hfd_ k hk hj; exact ⟨g, c, a1, a2.keep (leX_keepP l) (fun q o e => .inr fun e' => by cases e; omega), a3, Nat.lt_of_lt_of_le a4 l.size⟩) hoi_ tb_ ot_ z_ (by omega) h_.1 ⟨Nat.le_trans (by omega) h_.2.1, h_.2.2.1⟩}; exact OpDoL.v (Le' := fun _ b => b = W') (fun W'' h => by rw [h]; exact leQ_store kx_ (by omega) sn_) (fun W'' h k hk hk2 h0 => by rw [h]; rw [hUU_] at h0 ⊢; exact ⟨fun e => absurd (by rw [e]; decide) hk2, fun e => absurd e hk⟩) (opDoL_skip rfl ⟨rfl, rfl⟩ (st_ _ _ _ _ _ _ _ _ (d.v 40 (m 16 rfl)) (d.v 38 e_)) rfl sn_), trivial⟩ ?_
  intro f8 s8 W8 hB8
  have fB8 : Below w.heap.size w W8 := (fB7).trans (hB8.le.below (fB7).size hlo_)
  have z8 : W7.heap.size ≤ W8.heap.size := hB8.le.size
  have kl8 := leX_keepP hB8.le
  obtain ⟨gS_, cS_, eS_, pS_⟩ := hB8.is 14
  have tln8 := pS_.2.2.2
  have stn8 := hB8.is 17; have stn8' : SS_ W8 := stn8; rw [← hSS_] at stn8'
  have b8_0 := blk_x b7_0 hB8.le nb_s10
  have b8_1 := blk_x b7_1 hB8.le nb_s11
  have b8_2 := blk_x b7_2 hB8.le nb_s29
  have enf8 : TabV 3 3 (fun k => Value.int .i64 ((runF (freeK ns x) (chK CH) nm js od i).en k)) BE W8 := by obtain ⟨cs_, e1_, e2_⟩ := q13'; exact ⟨cs_, kl8.block _ _ (by omega) e1_, e2_⟩
  generalize hg8 : ov [(25, 0), (26, 1), (27, 2), (28, 3), (29, 4), (30, 5), (31, 6), (32, 7), (33, 8), (34, 9), (35, 10), (36, 11), (37, 12), (24, 13), (38, 14), (39, 15), (40, 16), (41, 18)] f8 g7 = g8
  have k8_2 := kt hg8 2 k7_2
  have k8_4 := kt hg8 4 k7_4
  have k8_5 := kt hg8 5 k7_5
  have k8_6 := kt hg8 6 k7_6
  have k8_18 := kt hg8 18 k7_18
  have k8_19 := kt hg8 19 k7_19
  have k8_20 := kt hg8 20 k7_20
  have k8_29 := kt hg8 29 (hB8.is 4)
  have k8_30 := kt hg8 30 (hB8.is 5)
  have k8_39 := kt hg8 39 (hB8.is 15)
  have li9 := Nat.not_le.2 hoi1_; have lj9 : ((oi_ : Nat) : Int) < 3 := (by omega)
  refine tail_value (o := _) rfl rfl rfl (v := .pointer (some ⟨BE, oi_, none⟩)) (by simp [go_sem, frv 44 k8_29, frv 44 k8_30, li9, lj9]) ?_
  generalize hg9 : upd g8 41 (.pointer (some ⟨BE, oi_, none⟩)) = g9
  have k9_2 := ku hg9 2 k8_2
  have k9_4 := ku hg9 4 k8_4
  have k9_5 := ku hg9 5 k8_5
  have k9_6 := ku hg9 6 k8_6
  have k9_18 := ku hg9 18 k8_18
  have k9_19 := ku hg9 19 k8_19
  have k9_20 := ku hg9 20 k8_20
  have k9_39 := ku hg9 39 k8_39
  have k9_41 := kt hg9 41 (upd_same _ _ _)
  obtain ⟨W10, st10, tb10, ot10, z10, fB10⟩ := storeV_tail (P := Try.prog) (ty := 3) (i := oi_) (x := .int .i64 pq_.at_) hoi1_ fB8 enf8 (by omega) (by kernel_rfl) rfl rfl
  refine tail_skip (o := _) rfl ⟨rfl, rfl⟩ (st10 _ _ _ _ _ _ _ _ (fr_ev k9_41) (fr_ev k9_39)) ?_
  have b10_0 := ot10 _ _ (by omega) b8_0
  have b10_1 := ot10 _ _ (by omega) b8_1
  have b10_2 := ot10 _ _ (by omega) b8_2
  have tl10 := TabV.other tln8 ot10 (by omega)
  have sn10 := StS.other stn8' ot10 z10 (by omega) (by omega)
  have en10 := tabV_en tb10
  refine wpOps_end ?_
  refine inBlock_normal ?_
  refine hK9 _ _ ?_
  refine region_dk 2 [(42, 0), (20, 1)] [[], [0]] (rel [is (.int .i64 ((i : Int) + 1)),
   is (.int .i64 ((i : Int) + 1))])
   ⟨is_k, is_k, trivial⟩
   ⟨fun f s W l m n r u d => opv rfl rfl (by simp [go_sem, d.e 20 ((r 1 20 rfl rfl).trans k9_20), IntWalk.i64_in ((i : Int) + 1) (by omega)]) rfl,
  fun f s W l m n r u d => opv rfl rfl (by simp [go_sem, d.e 42 (m 0 rfl)]) rfl, trivial⟩ ?_
  intro f11 s11 W11 hB11 g11 hg11
  have fB11 := hB11.f fB10
  have z11 := hB11.below.size
  have b11_0 := hB11.b b10_0
  have b11_1 := hB11.b b10_1
  have b11_2 := hB11.b b10_2
  have q14' := (TabV.below tl10 hB11.below)
  have q15' := (StS.below sn10 hB11.below)
  have q16' := (TabV.below en10 hB11.below)
  refine wpOps_end ?_
  have k11_2 := kt hg11 2 k9_2
  have k11_4 := kt hg11 4 k9_4
  have k11_5 := kt hg11 5 k9_5
  have k11_6 := kt hg11 6 k9_6
  have k11_18 := kt hg11 18 k9_18
  have k11_19 := kt hg11 19 k9_19
  have k11_20 := kt hg11 20 (hB11.is 1)
  refine then_normal ?_
  exact ⟨_, by omega, g11, rfl, i + 1, rfl, k11_2, k11_4, k11_5, k11_6, k11_18, k11_19, k11_20.trans (by go_num), fB11, (by omega), b11_0, b11_1, b11_2, (by have h_ := q14'; rw [← hpq_, ← hoi_] at h_; exact h_), (by have h_ := q15'; rw [← hpq_, ← hoi_] at h_; exact h_), (by have h_ := q16'; rw [← hpq_, ← hoi_] at h_; exact h_), (by omega)⟩
 ·
  have hc8' := hc8; try simp only [ba] at hc8'
  have hin_ : i = 3 := by omega
  refine wp_exit ?_
  refine then_exit ?_
  refine then_exit ?_
  refine inBlock_at ?_
  refine hK4 _ _ ?_
  refine wp_seq_k fun K11 hK11 => ?_
  refine region_dk 1 [(43, 0)] [[], [0]] (rel [is (.agg #[.slice (some ⟨BS, 0, none⟩) (3) (3), .slice (some ⟨BE, 0, none⟩) (3) (3)])])
   ⟨is_k, trivial⟩
   ⟨fun f s W l m n r u d => opv rfl rfl (by simp [go_sem, d.e 5 k6_5, cb b6_2 l 0, cb b6_2 l 1]) rfl, trivial⟩ ?_
  intro f12 s12 W12 hB12 g12 hg12
  have fB12 := hB12.f fB6
  have z12 := hB12.below.size
  have b12_0 := hB12.b b6_0
  have b12_1 := hB12.b b6_1
  have b12_2 := hB12.b b6_2
  have q17' := (TabV.below q8' hB12.below)
  have q18' := (StS.below q9' hB12.below)
  have q19' := (TabV.below q10' hB12.below)
  have k12_4 := kt hg12 4 k6_4
  have k12_43 := kt hg12 43 (hB12.is 0)
  obtain ⟨W13, hW13⟩ : ∃ W', W' = W12.setRow (s1 1) #[.slice (some ⟨BS, 0, none⟩) (3) (3), .slice (some ⟨BE, 0, none⟩) (3) (3)] := ⟨_, rfl⟩
  refine tail_skip (o := _) rfl ⟨rfl, rfl⟩ (run_seg hW13 (fr_ev k12_4) (fr_ev k12_43) b12_1 rfl rfl rfl rfl) ?_
  obtain ⟨fB13, nb13, ot13, z13⟩ := seg_facts hW13 fB12 b12_1 (by omega)
  clear hW13
  have b13_0 := ot13 _ _ (by omega) b12_0
  have b13_2 := ot13 _ _ (by omega) b12_2
  have q20' := (TabV.other q17' ot13 (by omega))
  have q21' := (StS.other q18' ot13 z13 (by omega) (by omega))
  have q22' := (TabV.other q19' ot13 (by omega))
  refine wpOps_end ?_
  refine hK11 _ _ ?_
  refine wp_ret ?_
  refine leave_gen (v := .agg #[.slice (some ⟨BS, 0, none⟩) (3) (3), .slice (some ⟨BE, 0, none⟩) (3) (3)]) (.inr rfl) (by simp [results, Try.results25, go_sem, frv 44 k12_4, cl nb13 0, cl nb13 1]) ?_
  subst hin_
  exact ⟨BS, BE, V_, rfl, q21', q22', by omega, by omega, fB13⟩
set_option maxRecDepth 100000 in
set_option maxHeartbeats 16000000 in
theorem run_4 (nm ns : Nat) (CH : List (List Int)) (x : Fs) (js : Nat → Fj) (bc oc cc bs os_ sc bj oj cj : Nat) (sa : Option Addr) (adc : Nat → Option Addr) (kpc : Nat → Nat) (adj : Nat → Option Addr) (kpj : Nat → Nat) (od : Nat → Nat) (ao : Option Addr) (no co : Nat) (xs : List Int) (w : World) (hF : FlOk nm ns 4 CH x js) (hM : FlR nm ns 4 CH js x bc oc bs os_ bj oj sa adc kpc adj kpj w) (hX : Ii w ao no co xs) (hno : no = 4) (hod : ∀ i, i < 4 → elT xs i = ((od i : Nat) : Int) ∧ od i < 4) :
  Calls Try.prog 25 #[.agg #[.int .i64 ((nm : Int)), .slice (some ⟨bc, oc, none⟩) (2) (cc), .slice (sa) (ns) (sc), .slice (some ⟨bj, oj, none⟩) (4) (cj)], .slice (ao) (no) (co)] w (fun e w' => ∃ bS bE V, e = .returned (.agg #[.slice (some ⟨bS, 0, none⟩) 4 4, .slice (some ⟨bE, 0, none⟩) 4 4]) ∧ StS V bS nm 4 od 4 (runF (freeK ns x) (chK CH) nm js od 4).st w' ∧ TabV 3 4 (fun k => Value.int .i64 ((runF (freeK ns x) (chK CH) nm js od 4).en k)) bE w' ∧ w.heap.size ≤ bS ∧ w.heap.size ≤ bE ∧ Below w.heap.size w w') := by
 have gn_ := hF.nmB
 have gT_ : x.t ≤ 2000 := hF.xt.2
 obtain ⟨bo_, oo_, hXo_⟩ := hX.open
 have hXa_ := (hXo_ (by omega)).1
 have hXc_ := (hXo_ (by omega)).2
 refine calls_fr Try.func25 Try.ntmps25 rfl rfl fun g hg => ?_
 have k0 : g 0 = .agg #[.int .i64 ((nm : Int)), .slice (some ⟨bc, oc, none⟩) (2) (cc), .slice (sa) (ns) (sc), .slice (some ⟨bj, oj, none⟩) (4) (cj)] := hg 0
 have k1 : g 1 = .slice (ao) (no) (co) := hg 1
 clear hg
 have fB0 : Below w.heap.size w w := Below.refl _ _
 refine wp_seq_k fun K1 hK1 => ?_
 refine region_dk 2 [(2, 0), (4, 1)] [[], []] (rel [bx 0 #[.int .i64 ((nm : Int)), .slice (some ⟨bc, oc, none⟩) (2) (cc), .slice (sa) (ns) (sc), .slice (some ⟨bj, oj, none⟩) (4) (cj)] 94,
   bx 1 #[.slice (none) (0) (0), .slice (none) (0) (0)] 98])
  ⟨bx_k, bx_k, trivial⟩
  ⟨fun f s W l m n r u d => opb rfl rfl (by simp [go_sem, d.e 0 k0]),
  fun f s W l m n r u d => opb rfl rfl (by simp [go_sem]), trivial⟩ ?_
 intro f1 s1 W1 hB1 g1 hg1
 have fB1 := hB1.f fB0
 have z1 := hB1.below.size
 obtain ⟨r1_0, br1_0⟩ := hB1.is 0
 have lr1_0 := hB1.lr 0 br1_0
 obtain ⟨r1_1, br1_1⟩ := hB1.is 1
 have lr1_1 := hB1.lr 1 br1_1
 have ne1_0_1 := hB1.nb 0 1
 refine hK1 _ _ ?_
 have k1_1 := kt hg1 1 k1
 have k1_2 := kt hg1 2 r1_0
 have k1_4 := kt hg1 4 r1_1
 refine wp_seq_k fun K2 hK2 => ?_
 refine region_dk 10 [(9, 0), (10, 1), (11, 2), (12, 3), (13, 4), (14, 5), (15, 6), (16, 7), (17, 8), (5, 9)] [[], [0], [0, 1], [0, 1, 2], [], [4], [4, 5], [4, 5, 6], [0, 1, 2, 3, 4, 5, 6, 7], [], [0, 1, 2, 3, 4, 5, 6, 7, 8, 9]] (rel [is (.pointer (some ⟨(s1 0), 3, none⟩)),
   is (.slice (some ⟨bj, oj, none⟩) (4) (cj)),
   is (.int .i64 4),
   row 3 4 #[.slice (none) (0) (0), .slice (none) (0) (0), .slice (none) (0) (0), .slice (none) (0) (0)] 25,
   is (.pointer (some ⟨(s1 0), 3, none⟩)),
   is (.slice (some ⟨bj, oj, none⟩) (4) (cj)),
   is (.int .i64 4),
   row 7 4 #[.int .i64 0, .int .i64 0, .int .i64 0, .int .i64 0] 3,
   isS fun s => .agg #[.slice (some ⟨(s 3), 0, none⟩) (4) (4), .slice (some ⟨(s 7), 0, none⟩) (4) (4)],
   bx 9 #[.slice (none) (0) (0), .slice (none) (0) (0)] 98])
  ⟨is_k, is_k, is_k, row_k, is_k, is_k, is_k, row_k, isS_k fun s s' e => by rw [e 3 (by simp), e 7 (by simp)], bx_k, trivial⟩
  ⟨fun f s W l m n r u d => opv rfl rfl (by simp [go_sem, d.e 2 k1_2]) rfl,
  fun f s W l m n r u d => opv rfl rfl (by simp [go_sem, d.e 9 (m 0 rfl), cb br1_0 l 3]) rfl,
  fun f s W l m n r u d => opv rfl rfl (by simp [go_sem, d.e 10 (m 1 rfl)]) rfl,
  fun f s W l m n r u d => opr rfl rfl (by simp [go_sem, d.e 11 (m 2 rfl)]; kernel_rfl),
  fun f s W l m n r u d => opv rfl rfl (by simp [go_sem, d.e 2 k1_2]) rfl,
  fun f s W l m n r u d => opv rfl rfl (by simp [go_sem, d.e 13 (m 4 rfl), cb br1_0 l 3]) rfl,
  fun f s W l m n r u d => opv rfl rfl (by simp [go_sem, d.e 14 (m 5 rfl)]) rfl,
  fun f s W l m n r u d => opr rfl rfl (by simp [go_sem, d.e 15 (m 6 rfl)]; kernel_rfl),
  fun f s W l m n r u d => opv rfl rfl (by simp [go_sem, d.e 12 (m 3 rfl).1, d.e 16 (m 7 rfl).1, upd]) rfl,
  fun f s W l m n r u d => opb rfl rfl (by simp [go_sem]), trivial⟩ ?_
 intro f2 s2 W2 hB2 g2 hg2
 have fB2 := hB2.f fB1
 have z2 := hB2.below.size
 have b2_0 := hB2.b br1_0
 have b2_1 := hB2.b br1_1
 obtain ⟨r2_3, br2_3⟩ := hB2.is 3
 have lr2_3 := hB2.lr 3 br2_3
 obtain ⟨r2_7, br2_7⟩ := hB2.is 7
 have lr2_7 := hB2.lr 7 br2_7
 obtain ⟨r2_9, br2_9⟩ := hB2.is 9
 have lr2_9 := hB2.lr 9 br2_9
 have ne2_3_7 := hB2.nb 3 7
 have ne2_3_9 := hB2.nb 3 9
 have ne2_7_9 := hB2.nb 7 9
 have k2_1 := kt hg2 1 k1_1
 have k2_2 := kt hg2 2 k1_2
 have k2_4 := kt hg2 4 k1_4
 have k2_17 := kt hg2 17 (hB2.is 8)
 have k2_5 := kt hg2 5 r2_9
 obtain ⟨W3, hW3⟩ : ∃ W', W' = W2.setRow (s2 9) #[.slice (some ⟨(s2 3), 0, none⟩) (4) (4), .slice (some ⟨(s2 7), 0, none⟩) (4) (4)] := ⟨_, rfl⟩
 refine tail_skip (o := _) rfl ⟨rfl, rfl⟩ (run_seg hW3 (fr_ev k2_5) (fr_ev k2_17) br2_9 rfl rfl rfl rfl) ?_
 obtain ⟨fB3, nb3, ot3, z3⟩ := seg_facts hW3 fB2 br2_9 (by omega)
 clear hW3
 have b3_0 := ot3 _ _ (by omega) b2_0
 have b3_1 := ot3 _ _ (by omega) b2_1
 have b3_2 := ot3 _ _ (by omega) br2_3
 have b3_3 := ot3 _ _ (by omega) br2_7
 refine wpOps_end ?_
 refine hK2 _ _ ?_
 refine wp_seq_k fun K3 hK3 => ?_
 refine region_dk 1 [(6, 0)] [[]] (rel [bx 0 #[.int .i64 0, .int .i64 0, .bool false, .int .i64 0, .int .i64 0, .bool false, .int .i64 0, .int .i64 0, .bool false, .int .i64 0, .int .i64 0, .bool false] 147])
  ⟨bx_k, trivial⟩
  ⟨fun f s W l m n r u d => opb rfl rfl (by simp [go_sem]), trivial⟩ ?_
 intro f4 s4 W4 hB4 g4 hg4
 have fB4 := hB4.f fB3
 have z4 := hB4.below.size
 have b4_0 := hB4.b b3_0
 have b4_1 := hB4.b b3_1
 have b4_2 := hB4.b b3_2
 have b4_3 := hB4.b b3_3
 have b4_4 := hB4.b nb3
 obtain ⟨r4_0, br4_0⟩ := hB4.is 0
 have lr4_0 := hB4.lr 0 br4_0
 refine hK3 _ _ ?_
 have k4_1 := kt hg4 1 k2_1
 have k4_2 := kt hg4 2 k2_2
 have k4_4 := kt hg4 4 k2_4
 have k4_5 := kt hg4 5 k2_5
 have k4_6 := kt hg4 6 r4_0
 have tL0 : TabV 147 12 (lineV (runF (freeK ns x) (chK CH) nm js od 0).ln) (s4 0) W4 := TabV.list br4_0 rfl (fun i hi => by match i, hi with | 0, _ => rfl | 1, _ => rfl | 2, _ => rfl | 3, _ => rfl | 4, _ => rfl | 5, _ => rfl | 6, _ => rfl | 7, _ => rfl | 8, _ => rfl | 9, _ => rfl | 10, _ => rfl | 11, _ => rfl)
 have tS0 : StS W4.heap.size (s2 3) nm 4 od 0 (runF (freeK ns x) (chK CH) nm js od 0).st W4 := ⟨fun _ => .slice none 0 0, TabV.list b4_2 rfl (fun i hi => by match i, hi with | 0, _ => rfl | 1, _ => rfl | 2, _ => rfl | 3, _ => rfl), fun k hk ⟨j, hj, _⟩ => absurd hj (Nat.not_lt_zero _)⟩
 have tE0 : TabV 3 4 (fun k => Value.int .i64 ((runF (freeK ns x) (chK CH) nm js od 0).en k)) (s2 7) W4 := TabV.list b4_3 rfl (fun i hi => by match i, hi with | 0, _ => rfl | 1, _ => rfl | 2, _ => rfl | 3, _ => rfl)
 have lL_ := tL0.lt; have lS_ := lt_of_blk b4_2; have lE_ := tE0.lt
 obtain ⟨BL, hBL_⟩ : ∃ b, (s4 0) = b := ⟨_, rfl⟩
 obtain ⟨BS, hBS_⟩ : ∃ b, (s2 3) = b := ⟨_, rfl⟩
 obtain ⟨BE, hBE_⟩ : ∃ b, (s2 7) = b := ⟨_, rfl⟩
 obtain ⟨V_, hV_⟩ : ∃ V, W4.heap.size = V := ⟨_, rfl⟩
 have h5_ := b4_4; rw [hBS_, hBE_] at h5_; rw [hBL_] at tL0; rw [hBS_, hV_] at tS0; rw [hBE_] at tE0; have k6_ : g4 6 = .pointer (some ⟨BL, 0, none⟩) := hBL_ ▸ k4_6
 have d1_ : BL ≠ BS := (by omega); have d2_ : BL ≠ BE := (by omega); have d3_ : BS ≠ BE := (by omega); have g1b_ : w.heap.size ≤ BL ∧ BL < V_ := (by omega); have g2b_ : w.heap.size ≤ BS ∧ BS < V_ := (by omega); have g3b_ : w.heap.size ≤ BE ∧ BE < V_ := (by omega); have hVW_ : V_ ≤ W4.heap.size := (by omega)
 have e_s10 : (s1 0) ≠ BL ∧ (s1 0) ≠ BS ∧ (s1 0) ≠ BE ∧ (s1 0) < V_ := by have := lt_of_blk b4_0; omega
 have e_s11 : (s1 1) ≠ BL ∧ (s1 1) ≠ BS ∧ (s1 1) ≠ BE ∧ (s1 1) < V_ := by have := lt_of_blk b4_1; omega
 have e_s29 : (s2 9) ≠ BL ∧ (s2 9) ≠ BS ∧ (s2 9) ≠ BE ∧ (s2 9) < V_ := by have := lt_of_blk b4_4; omega
 refine wp_seq_k fun K4 hK4 => ?_
 refine wp_seq_k fun K5 hK5 => ?_
 refine region_dk 3 [(18, 0), (19, 1), (20, 2)] [[], [0], []] (rel [is (.slice (ao) (no) (co)),
   is (.int .i64 ((no : Int))),
   is (.int .i64 0)])
  ⟨is_k, is_k, is_k, trivial⟩
  ⟨fun f s W l m n r u d => opv rfl rfl (by simp [go_sem, d.e 1 k4_1]) rfl,
  fun f s W l m n r u d => opv rfl rfl (by simp [go_sem, d.e 18 (m 0 rfl)]) rfl,
  fun f s W l m n r u d => opv rfl rfl (by simp [go_sem]) rfl, trivial⟩ ?_
 intro f5 s5 W5 hB5 g5 hg5
 have fB5 := hB5.f fB4
 have z5 := hB5.below.size
 have b5_0 := hB5.b b4_0
 have b5_1 := hB5.b b4_1
 have b5_2 := hB5.b h5_
 have q23' := (TabV.below tL0 hB5.below)
 have q24' := (StS.below tS0 hB5.below)
 have q25' := (TabV.below tE0 hB5.below)
 refine hK5 _ _ ?_
 have k5_2 := kt hg5 2 k4_2
 have k5_4 := kt hg5 4 k4_4
 have k5_5 := kt hg5 5 k4_5
 have k5_6 := kt hg5 6 k6_
 have k5_18 := kt hg5 18 (hB5.is 0)
 have k5_19 := kt hg5 19 (hB5.is 1)
 have k5_20 := kt hg5 20 (hB5.is 2)
 refine wp_block ?_
 refine wp_loop_n (fun m_ a_ W_ => ∃ g_ : Nat → Value, a_ = fr 44 g_ ∧ (∃ i : Nat, m_ = 4 - i ∧ g_ 2 = .pointer (some ⟨(s1 0), 0, none⟩) ∧ g_ 4 = .pointer (some ⟨(s1 1), 0, none⟩) ∧ g_ 5 = .pointer (some ⟨(s2 9), 0, none⟩) ∧ g_ 6 = .pointer (some ⟨BL, 0, none⟩) ∧ g_ 18 = .slice (ao) (no) (co) ∧ g_ 19 = .int .i64 ((no : Int)) ∧ g_ 20 = .int .i64 ((i : Int)) ∧ Below w.heap.size w W_ ∧ W5.heap.size ≤ W_.heap.size ∧ W_.heap[(s1 0)]? = some (.cells #[.int .i64 ((nm : Int)), .slice (some ⟨bc, oc, none⟩) (2) (cc), .slice (sa) (ns) (sc), .slice (some ⟨bj, oj, none⟩) (4) (cj)] 94 (0, 0)) ∧ W_.heap[(s1 1)]? = some (.cells #[.slice (none) (0) (0), .slice (none) (0) (0)] 98 (0, 0)) ∧ W_.heap[(s2 9)]? = some (.cells #[.slice (some ⟨BS, 0, none⟩) (4) (4), .slice (some ⟨BE, 0, none⟩) (4) (4)] 98 (0, 0)) ∧ TabV 147 12 (lineV (runF (freeK ns x) (chK CH) nm js od i).ln) BL W_ ∧ StS V_ BS nm 4 od i (runF (freeK ns x) (chK CH) nm js od i).st W_ ∧ TabV 3 4 (fun k => Value.int .i64 ((runF (freeK ns x) (chK CH) nm js od i).en k)) BE W_ ∧ (i ≤ 4))) ⟨_, g5, rfl, 0, rfl, k5_2, k5_4, k5_5, k5_6, k5_18, k5_19, k5_20.trans (by rfl), fB5, Nat.le_refl _, b5_0, b5_1, b5_2, q23', q24', q25', (by omega)⟩ ?_
 rintro _ _ W_26 ⟨g_26, rfl, i, rfl, k_26_2, k_26_4, k_26_5, k_26_6, k_26_18, k_26_19, k_26_20, fB_26, z_26, b_26_0, b_26_1, b_26_2, q27', q28', q29', lk0⟩
 refine wp_seq_k fun K6 hK6 => ?_
 refine region_dk 1 [(21, 0)] [[]] (rel [is (.bool (decide ((i : Int) < (no : Int))))])
  ⟨is_k, trivial⟩
  ⟨fun f s W l m n r u d => opv rfl rfl (by simp [go_sem, d.e 20 k_26_20, d.e 19 k_26_19]) rfl, trivial⟩ ?_
 intro f6 s6 W6 hB6 g6 hg6
 have fB6 := hB6.f fB_26
 have z6 := hB6.below.size
 have b6_0 := hB6.b b_26_0
 have b6_1 := hB6.b b_26_1
 have b6_2 := hB6.b b_26_2
 have q30' := (TabV.below q27' hB6.below)
 have q31' := (StS.below q28' hB6.below)
 have q32' := (TabV.below q29' hB6.below)
 refine hK6 _ _ ?_
 have k6_2 := kt hg6 2 k_26_2
 have k6_4 := kt hg6 4 k_26_4
 have k6_5 := kt hg6 5 k_26_5
 have k6_6 := kt hg6 6 k_26_6
 have k6_18 := kt hg6 18 k_26_18
 have k6_19 := kt hg6 19 k_26_19
 have k6_20 := kt hg6 20 k_26_20
 have k6_21 := kt hg6 21 (hB6.is 0)
 refine wp_seq_k fun K7 hK7 => ?_
 refine wp_cond_split (t := decide ((i : Int) < (no : Int))) ((fr_eval rfl).trans k6_21) (fun hc8 => ?_) (fun hc8 => ?_)
 ·
  have hc8' := hc8; try simp only [ba] at hc8'
  have hin_ : i < 4 := by omega
  obtain ⟨oi_, hoi_⟩ : ∃ o, od i = o := ⟨_, rfl⟩
  have hoe_ : elT xs i = ((oi_ : Nat) : Int) := hoi_ ▸ (hod i hin_).1
  have hoi1_ : oi_ < 4 := hoi_ ▸ (hod i hin_).2
  have hrb_ := runF_bd (freeK_in (ns := ns) gT_) (chK_bd hF) gn_.2 (by omega) (Int.le_refl 2000) hF.jb od i
  have hLi_ := hrb_.1
  refine wp_skip ?_
  refine hK7 _ _ ?_
  refine wp_seq_k fun K9 hK9 => ?_
  refine wp_block ?_
  refine wp_seq_k fun K10 hK10 => ?_
  refine region_dk 3 [(22, 0), (23, 1), (8, 2)] [[], [0], [0, 1]] (rel [is (.pointer (some ⟨bo_, oo_ + i, none⟩)),
   is (.int .i64 (((oi_ : Nat) : Int))),
   is (.int .i64 (((oi_ : Nat) : Int)))])
   ⟨is_k, is_k, is_k, trivial⟩
   ⟨fun f s W l m n r u d => by have hab := hXa_; have li_ := Nat.not_le.2 (show i < no by omega); have li2_ : (i : Int) < (no : Int) := (by omega); exact opv rfl rfl (by simp [go_sem, d.e 18 k6_18, d.e 20 k6_20, hab, li_, li2_]) rfl,
  fun f s W l m n r u d => by have y := below_trans fB6 l; have cu_ := hXc_ W y i (by omega); rw [hoe_] at cu_; exact opv rfl rfl (by simp [go_sem, d.e 22 (m 0 rfl), cu_]) rfl,
  fun f s W l m n r u d => opv rfl rfl (by simp [go_sem, d.e 23 (m 1 rfl)]) rfl, trivial⟩ ?_
  intro f7 s7 W7 hB7 g7 hg7
  have fB7 := hB7.f fB6
  have z7 := hB7.below.size
  have b7_0 := hB7.b b6_0
  have b7_1 := hB7.b b6_1
  have b7_2 := hB7.b b6_2
  have q33' := (TabV.below q30' hB7.below)
  have q34' := (StS.below q31' hB7.below)
  have q35' := (TabV.below q32' hB7.below)
  refine hK10 _ _ ?_
  have k7_2 := kt hg7 2 k6_2
  have k7_4 := kt hg7 4 k6_4
  have k7_5 := kt hg7 5 k6_5
  have k7_6 := kt hg7 6 k6_6
  have k7_18 := kt hg7 18 k6_18
  have k7_19 := kt hg7 19 k6_19
  have k7_20 := kt hg7 20 k6_20
  have k7_8 := kt hg7 8 (hB7.is 2)
  obtain ⟨pq_, hpq_⟩ : ∃ p, (passF (freeK ns x) (chK CH) (js oi_) (runF (freeK ns x) (chK CH) nm js od i).ln nm) = p := ⟨_, rfl⟩
  have ltV_ : BL < W7.heap.size := by omega
  have ltV2_ : BS < W7.heap.size := by omega
  obtain ⟨SS_, hSS_⟩ : ∃ S : World → Prop, (fun W => StS V_ BS nm 4 od (i + 1) (fun k => if k = od i then pq_.st else (runF (freeK ns x) (chK CH) nm js od i).st k) W) = S := ⟨_, rfl⟩
  have hSb_ : ∀ a b, Below a.heap.size a b → SS_ a → SS_ b := fun a b h h0 => by rw [← hSS_] at h0 ⊢; exact StS.below h0 h
  obtain ⟨ff_, hft_, hfd_⟩ := q34'
  obtain ⟨UU_, hUU_⟩ : ∃ U : Nat → World → Prop, U = fun k a => (k = 12 → Below W7.heap.size W7 a) ∧ (k = 17 → TabV 25 4 ff_ BS a) := ⟨_, rfl⟩
  have hbl_ : ∀ a b, Below a.heap.size a b → LeQ BL BS pq_ SS_ a b := LeX.of_below (stayQ hSb_)
  have hub_ : ∀ k a b, Below a.heap.size a b → UU_ k a → UU_ k b := fun k a b h h0 => by rw [hUU_] at h0 ⊢; exact ⟨fun e => below_trans (h0.1 e) h, fun e => TabV.below (h0.2 e) h⟩
  have hlo_ : ∀ k, k = BL ∨ k = BS → w.heap.size ≤ k := fun k e => by rcases e with e | e <;> subst e <;> omega
  have nb_s10 : ¬ ((s1 0) = BL ∨ (s1 0) = BS) := by omega
  have nb_s11 : ¬ ((s1 1) = BL ∨ (s1 1) = BS) := by omega
  have nb_s29 : ¬ ((s2 9) = BL ∨ (s2 9) = BS) := by omega
  refine region_doV UU_ (LeQ BL BS pq_ SS_) (fun k => by rw [hUU_]; exact ⟨fun _ => Below.refl _ _, fun _ => hft_⟩) (fun k a h => hub_ k _ _ (Below.refl _ _).drew h) LeX.refl (LeX.drew (stayQ hSb_)) LeX.trans (fun _ _ h => h.size) 18 [(25, 0), (26, 1), (27, 2), (28, 3), (29, 4), (30, 5), (31, 6), (32, 7), (33, 8), (34, 9), (35, 10), (36, 11), (37, 12), (24, 13), (38, 14), (39, 15), (40, 16), (41, 18)] [[], [0], [], [], [3], [], [], [], [7], [], [7, 8, 9], [7, 8, 9, 10], [6, 7, 8, 9, 10, 11], [6, 7, 8, 9, 10, 11, 12], [6, 7, 8, 9, 10, 11, 12, 13], [6, 7, 8, 9, 10, 11, 12, 13], [0, 1, 2, 6, 7, 8, 9, 10, 11, 12, 13, 14], [0, 1, 2, 6, 7, 8, 9, 10, 11, 12, 13, 14, 16], [0, 1, 2, 3, 4, 5, 6, 7, 8, 9, 10, 11, 12, 13, 14, 15, 16, 17], [0, 1, 2, 3, 4, 5, 6, 7, 8, 9, 10, 11, 12, 13, 14, 15, 16, 17, 18]] (rel [is (.pointer (some ⟨(s2 9), 0, none⟩)),
   is (.slice (some ⟨BS, 0, none⟩) (4) (4)),
   is (.int .i64 (((oi_ : Nat) : Int))),
   is (.pointer (some ⟨(s2 9), 1, none⟩)),
   is (.slice (some ⟨BE, 0, none⟩) (4) (4)),
   is (.int .i64 (((oi_ : Nat) : Int))),
   is (.agg #[.int .i64 ((nm : Int)), .slice (some ⟨bc, oc, none⟩) (2) (cc), .slice (sa) (ns) (sc), .slice (some ⟨bj, oj, none⟩) (4) (cj)]),
   is (.pointer (some ⟨(s1 0), 3, none⟩)),
   is (.slice (some ⟨bj, oj, none⟩) (4) (cj)),
   is (.int .i64 (((oi_ : Nat) : Int))),
   is (.pointer (some ⟨bj, oj + oi_ * 4, none⟩)),
   is (.agg #[.int .i64 (((js oi_).kd : Int)), .int .i64 ((js oi_).rd), .int .i64 ((js oi_).du), .slice ((adj oi_)) ((js oi_).ms.length) ((kpj oi_))]),
   fun v _ W => PasR W7.heap.size BL nm pq_ v W,
   fun v _ W => PasR W7.heap.size BL nm pq_ v W,
   fun v _ W => PasS W7.heap.size BL nm pq_ v W,
   is (.int .i64 pq_.at_),
   is (.pointer (some ⟨BS, oi_, none⟩)),
   fun _ _ W => SS_ W]) (by kernel_rfl) (by kernel_rfl) (by kernel_rfl) (by kernel_rfl)
   ⟨is_kl, is_kl, is_kl, is_kl, is_kl, is_kl, is_kl, is_kl, is_kl, is_kl, is_kl, is_kl, pasRQ_k ltV_ ltV2_, pasRQ_k ltV_ ltV2_, pasSQ_k ltV_ ltV2_, is_kl, is_kl, stsQ_k, trivial⟩
   ⟨fun f s W l hU m n r u d => OpDo.v hbl_ hub_ (opv rfl rfl (by simp [go_sem, d.e 5 k7_5]) rfl),
  fun f s W l hU m n r u d => OpDo.v hbl_ hub_ (opv rfl rfl (by simp [go_sem, d.e 25 (m 0 rfl), cl (blk_x b7_2 l nb_s29) 0]) rfl),
  fun f s W l hU m n r u d => OpDo.v hbl_ hub_ (opv rfl rfl (by simp [go_sem, d.e 8 k7_8]) rfl),
  fun f s W l hU m n r u d => OpDo.v hbl_ hub_ (opv rfl rfl (by simp [go_sem, d.e 5 k7_5]) rfl),
  fun f s W l hU m n r u d => OpDo.v hbl_ hub_ (opv rfl rfl (by simp [go_sem, d.e 28 (m 3 rfl), cl (blk_x b7_2 l nb_s29) 1]) rfl),
  fun f s W l hU m n r u d => OpDo.v hbl_ hub_ (opv rfl rfl (by simp [go_sem, d.e 8 k7_8]) rfl),
  fun f s W l hU m n r u d => OpDo.v hbl_ hub_ (opl rfl rfl rfl (d.v 2 k7_2) (blk_x b7_0 l nb_s10) Try.underlying94 rfl (by kernel_rfl) rfl),
  fun f s W l hU m n r u d => OpDo.v hbl_ hub_ (opv rfl rfl (by simp [go_sem, d.e 2 k7_2]) rfl),
  fun f s W l hU m n r u d => OpDo.v hbl_ hub_ (opv rfl rfl (by simp [go_sem, d.e 32 (m 7 rfl), cl (blk_x b7_0 l nb_s10) 3]) rfl),
  fun f s W l hU m n r u d => OpDo.v hbl_ hub_ (opv rfl rfl (by simp [go_sem, d.e 8 k7_8]) rfl),
  fun f s W l hU m n r u d => OpDo.v hbl_ hub_ (by have li_ := Nat.not_le.2 hoi1_; have li2_ : ((oi_ : Nat) : Int) < 4 := (by omega); exact opv rfl rfl (by simp [go_sem, d.e 33 (m 8 rfl), d.e 34 (m 9 rfl), li_, li2_]) rfl),
  fun f s W l hU m n r u d => OpDo.v hbl_ hub_ (by have y := (fB7).trans (l.below (fB7).size hlo_); obtain ⟨cu0_, cu1_, cu2_, cu3_, -⟩ := (hM.j.below y).2 oi_ (by omega); exact opv rfl rfl (by simp [go_sem, d.e 35 (m 10 rfl), cu0_, cu1_, cu2_, cu3_]) rfl),
  fun f s W l hU m n r u d => by rw [hUU_] at hU; have hU1 := hU.1 rfl; exact OpDoL.v (Le' := LePs BL pq_) (fun W' h => leQ_call h (fun h0 => by rw [← hSS_] at h0 ⊢; exact StS.keepX h0 (leX_keepX h) (by omega) (by omega))) (fun W' h k hk _ h0 => by rw [hUU_] at h0 ⊢; exact ⟨fun e => absurd e hk, fun e => TabV.keepX (h0.2 e) (leX_keepX h) (by omega)⟩) (opDoL_call (args := #[.agg #[.int .i64 ((nm : Int)), .slice (some ⟨bc, oc, none⟩) (2) (cc), .slice (sa) (ns) (sc), .slice (some ⟨bj, oj, none⟩) (4) (cj)], .pointer (some ⟨BL, 0, none⟩), .agg #[.int .i64 (((js oi_).kd : Int)), .int .i64 ((js oi_).rd), .int .i64 ((js oi_).du), .slice ((adj oi_)) ((js oi_).ms.length) ((kpj oi_))]]) rfl rfl (by simp [go_sem, d.e 31 (m 6 rfl), d.e 6 k7_6, d.e 36 (m 11 rfl)]) (pass_any nm ns 4 CH x js bc oc cc bs os_ sc bj oj cj sa adc kpc adj kpj oi_ BL hF hM hoi1_ (runF (freeK ns x) (chK CH) nm js od i).ln (2000 + 2040 * (i : Int)) hLi_ (by omega) W (below_trans fB7 hU1) (TabV.below q33' hU1) (by omega)) (fun e W' h => by obtain ⟨g_, c_, e1, h1, h2, h3, h4, h5⟩ := h; rw [hpq_] at e1 h1 h5; exact ⟨_, e1, lePs_of h4 h5, ⟨g_, c_, rfl, h1, Nat.le_trans hU1.size h2, h3, h5⟩⟩)),
  fun f s W l hU m n r u d => by obtain ⟨g_, c_, e_, h_⟩ := m 12 rfl; exact OpDo.v hbl_ hub_ (opDo_value (v := .tuple #[.slice (some ⟨g_, 0, none⟩) nm c_, .int .i64 pq_.at_]) rfl rfl (by simp [go_sem, d.e 37 e_]) (Below.refl _ _) ⟨g_, c_, rfl, h_⟩),
  fun f s W l hU m n r u d => by obtain ⟨g_, c_, e_, h_⟩ := m 13 rfl; exact OpDo.v hbl_ hub_ (opDo_value (v := .slice (some ⟨g_, 0, none⟩) nm c_) rfl rfl (by simp [go_sem, d.e 24 e_]) (Below.refl _ _) ⟨g_, c_, rfl, h_⟩),
  fun f s W l hU m n r u d => by obtain ⟨g_, c_, e_, h_⟩ := m 13 rfl; exact OpDo.v hbl_ hub_ (opv rfl rfl (by simp [go_sem, d.e 24 e_]) rfl),
  fun f s W l hU m n r u d => OpDo.v hbl_ hub_ (by have li_ := Nat.not_le.2 hoi1_; have li2_ : ((oi_ : Nat) : Int) < 4 := (by omega); exact opv rfl rfl (by simp [go_sem, d.e 26 (m 1 rfl), d.e 27 (m 2 rfl), li_, li2_]) rfl),
  fun f s W l hU m n r u d => by rw [hUU_] at hU; have hU1 := hU.2 rfl; obtain ⟨g_, c_, e_, h_⟩ := m 14 rfl; have fW_ := (fB7).trans (l.below (fB7).size hlo_); obtain ⟨W', st_, tb_, ot_, z_, fB_⟩ := storeV_tail (P := Try.prog) (ty := 25) (i := oi_) (x := .slice (some ⟨g_, 0, none⟩) nm c_) hoi1_ fW_ hU1 (by omega) (by kernel_rfl) rfl rfl; have kx_ : KeepX BS W W' := ⟨fB_.os.trans fW_.os.symm, fB_.tape.trans fW_.tape.symm, fB_.output.trans fW_.output.symm, z_, ot_⟩; have sn_ : SS_ W' := by {rw [← hSS_]; exact stS_step (i := i) (fun k hk hj => by obtain ⟨g, c, a1, a2, a3, a4⟩ := hfd_ k hk hj; exact ⟨g, c, a1, a2.keep (leX_keepP l) (fun q o e => .inr fun e' => by cases e; omega), a3, Nat.lt_of_lt_of_le a4 l.size⟩) hoi_ tb_ ot_ z_ (by omega) h_.1 ⟨Nat.le_trans (by omega) h_.2.1, h_.2.2.1⟩}; exact OpDoL.v (Le' := fun _ b => b = W') (fun W'' h => by rw [h]; exact leQ_store kx_ (by omega) sn_) (fun W'' h k hk hk2 h0 => by rw [h]; rw [hUU_] at h0 ⊢; exact ⟨fun e => absurd (by rw [e]; decide) hk2, fun e => absurd e hk⟩) (opDoL_skip rfl ⟨rfl, rfl⟩ (st_ _ _ _ _ _ _ _ _ (d.v 40 (m 16 rfl)) (d.v 38 e_)) rfl sn_), trivial⟩ ?_
  intro f8 s8 W8 hB8
  have fB8 : Below w.heap.size w W8 := (fB7).trans (hB8.le.below (fB7).size hlo_)
  have z8 : W7.heap.size ≤ W8.heap.size := hB8.le.size
  have kl8 := leX_keepP hB8.le
  obtain ⟨gS_, cS_, eS_, pS_⟩ := hB8.is 14
  have tln8 := pS_.2.2.2
  have stn8 := hB8.is 17; have stn8' : SS_ W8 := stn8; rw [← hSS_] at stn8'
  have b8_0 := blk_x b7_0 hB8.le nb_s10
  have b8_1 := blk_x b7_1 hB8.le nb_s11
  have b8_2 := blk_x b7_2 hB8.le nb_s29
  have enf8 : TabV 3 4 (fun k => Value.int .i64 ((runF (freeK ns x) (chK CH) nm js od i).en k)) BE W8 := by obtain ⟨cs_, e1_, e2_⟩ := q35'; exact ⟨cs_, kl8.block _ _ (by omega) e1_, e2_⟩
  generalize hg8 : ov [(25, 0), (26, 1), (27, 2), (28, 3), (29, 4), (30, 5), (31, 6), (32, 7), (33, 8), (34, 9), (35, 10), (36, 11), (37, 12), (24, 13), (38, 14), (39, 15), (40, 16), (41, 18)] f8 g7 = g8
  have k8_2 := kt hg8 2 k7_2
  have k8_4 := kt hg8 4 k7_4
  have k8_5 := kt hg8 5 k7_5
  have k8_6 := kt hg8 6 k7_6
  have k8_18 := kt hg8 18 k7_18
  have k8_19 := kt hg8 19 k7_19
  have k8_20 := kt hg8 20 k7_20
  have k8_29 := kt hg8 29 (hB8.is 4)
  have k8_30 := kt hg8 30 (hB8.is 5)
  have k8_39 := kt hg8 39 (hB8.is 15)
  have li9 := Nat.not_le.2 hoi1_; have lj9 : ((oi_ : Nat) : Int) < 4 := (by omega)
  refine tail_value (o := _) rfl rfl rfl (v := .pointer (some ⟨BE, oi_, none⟩)) (by simp [go_sem, frv 44 k8_29, frv 44 k8_30, li9, lj9]) ?_
  generalize hg9 : upd g8 41 (.pointer (some ⟨BE, oi_, none⟩)) = g9
  have k9_2 := ku hg9 2 k8_2
  have k9_4 := ku hg9 4 k8_4
  have k9_5 := ku hg9 5 k8_5
  have k9_6 := ku hg9 6 k8_6
  have k9_18 := ku hg9 18 k8_18
  have k9_19 := ku hg9 19 k8_19
  have k9_20 := ku hg9 20 k8_20
  have k9_39 := ku hg9 39 k8_39
  have k9_41 := kt hg9 41 (upd_same _ _ _)
  obtain ⟨W10, st10, tb10, ot10, z10, fB10⟩ := storeV_tail (P := Try.prog) (ty := 3) (i := oi_) (x := .int .i64 pq_.at_) hoi1_ fB8 enf8 (by omega) (by kernel_rfl) rfl rfl
  refine tail_skip (o := _) rfl ⟨rfl, rfl⟩ (st10 _ _ _ _ _ _ _ _ (fr_ev k9_41) (fr_ev k9_39)) ?_
  have b10_0 := ot10 _ _ (by omega) b8_0
  have b10_1 := ot10 _ _ (by omega) b8_1
  have b10_2 := ot10 _ _ (by omega) b8_2
  have tl10 := TabV.other tln8 ot10 (by omega)
  have sn10 := StS.other stn8' ot10 z10 (by omega) (by omega)
  have en10 := tabV_en tb10
  refine wpOps_end ?_
  refine inBlock_normal ?_
  refine hK9 _ _ ?_
  refine region_dk 2 [(42, 0), (20, 1)] [[], [0]] (rel [is (.int .i64 ((i : Int) + 1)),
   is (.int .i64 ((i : Int) + 1))])
   ⟨is_k, is_k, trivial⟩
   ⟨fun f s W l m n r u d => opv rfl rfl (by simp [go_sem, d.e 20 ((r 1 20 rfl rfl).trans k9_20), IntWalk.i64_in ((i : Int) + 1) (by omega)]) rfl,
  fun f s W l m n r u d => opv rfl rfl (by simp [go_sem, d.e 42 (m 0 rfl)]) rfl, trivial⟩ ?_
  intro f11 s11 W11 hB11 g11 hg11
  have fB11 := hB11.f fB10
  have z11 := hB11.below.size
  have b11_0 := hB11.b b10_0
  have b11_1 := hB11.b b10_1
  have b11_2 := hB11.b b10_2
  have q36' := (TabV.below tl10 hB11.below)
  have q37' := (StS.below sn10 hB11.below)
  have q38' := (TabV.below en10 hB11.below)
  refine wpOps_end ?_
  have k11_2 := kt hg11 2 k9_2
  have k11_4 := kt hg11 4 k9_4
  have k11_5 := kt hg11 5 k9_5
  have k11_6 := kt hg11 6 k9_6
  have k11_18 := kt hg11 18 k9_18
  have k11_19 := kt hg11 19 k9_19
  have k11_20 := kt hg11 20 (hB11.is 1)
  refine then_normal ?_
  exact ⟨_, by omega, g11, rfl, i + 1, rfl, k11_2, k11_4, k11_5, k11_6, k11_18, k11_19, k11_20.trans (by go_num), fB11, (by omega), b11_0, b11_1, b11_2, (by have h_ := q36'; rw [← hpq_, ← hoi_] at h_; exact h_), (by have h_ := q37'; rw [← hpq_, ← hoi_] at h_; exact h_), (by have h_ := q38'; rw [← hpq_, ← hoi_] at h_; exact h_), (by omega)⟩
 ·
  have hc8' := hc8; try simp only [ba] at hc8'
  have hin_ : i = 4 := by omega
  refine wp_exit ?_
  refine then_exit ?_
  refine then_exit ?_
  refine inBlock_at ?_
  refine hK4 _ _ ?_
  refine wp_seq_k fun K11 hK11 => ?_
  refine region_dk 1 [(43, 0)] [[], [0]] (rel [is (.agg #[.slice (some ⟨BS, 0, none⟩) (4) (4), .slice (some ⟨BE, 0, none⟩) (4) (4)])])
   ⟨is_k, trivial⟩
   ⟨fun f s W l m n r u d => opv rfl rfl (by simp [go_sem, d.e 5 k6_5, cb b6_2 l 0, cb b6_2 l 1]) rfl, trivial⟩ ?_
  intro f12 s12 W12 hB12 g12 hg12
  have fB12 := hB12.f fB6
  have z12 := hB12.below.size
  have b12_0 := hB12.b b6_0
  have b12_1 := hB12.b b6_1
  have b12_2 := hB12.b b6_2
  have q39' := (TabV.below q30' hB12.below)
  have q40' := (StS.below q31' hB12.below)
  have q41' := (TabV.below q32' hB12.below)
  have k12_4 := kt hg12 4 k6_4
  have k12_43 := kt hg12 43 (hB12.is 0)
  obtain ⟨W13, hW13⟩ : ∃ W', W' = W12.setRow (s1 1) #[.slice (some ⟨BS, 0, none⟩) (4) (4), .slice (some ⟨BE, 0, none⟩) (4) (4)] := ⟨_, rfl⟩
  refine tail_skip (o := _) rfl ⟨rfl, rfl⟩ (run_seg hW13 (fr_ev k12_4) (fr_ev k12_43) b12_1 rfl rfl rfl rfl) ?_
  obtain ⟨fB13, nb13, ot13, z13⟩ := seg_facts hW13 fB12 b12_1 (by omega)
  clear hW13
  have b13_0 := ot13 _ _ (by omega) b12_0
  have b13_2 := ot13 _ _ (by omega) b12_2
  have q42' := (TabV.other q39' ot13 (by omega))
  have q43' := (StS.other q40' ot13 z13 (by omega) (by omega))
  have q44' := (TabV.other q41' ot13 (by omega))
  refine wpOps_end ?_
  refine hK11 _ _ ?_
  refine wp_ret ?_
  refine leave_gen (v := .agg #[.slice (some ⟨BS, 0, none⟩) (4) (4), .slice (some ⟨BE, 0, none⟩) (4) (4)]) (.inr rfl) (by simp [results, Try.results25, go_sem, frv 44 k12_4, cl nb13 0, cl nb13 1]) ?_
  subst hin_
  exact ⟨BS, BE, V_, rfl, q43', q44', by omega, by omega, fB13⟩
end Go.Proofs.Ytcgccflcjejlhaa
