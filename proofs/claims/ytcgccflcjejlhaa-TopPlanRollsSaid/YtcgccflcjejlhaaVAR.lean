/- Part of the proof: what the claim leans on. -/
import Derived.Test.YtcgccflcjejlhaaVAQ
import Derived.Test.YtcgccflcjejlhaaVAI
set_option maxHeartbeats 16000000
set_option maxRecDepth 100000
set_option linter.unusedSimpArgs false
set_option linter.unusedVariables false
namespace Go.Proofs.Ytcgccflcjejlhaa
open Go.RowKit
def LLr (W : World) (b o : Nat) (L : List (List Int)) (ad : Nat → Option Addr) (cp : Nat → Nat) : Prop := (0 < L.length → b < W.heap.size) ∧ ∀ i, i < L.length → W.cell? ⟨b, o + i, none⟩ = some (.slice (ad i) (L.getD i []).length (cp i)) ∧ Ii W (ad i) (L.getD i []).length (cp i) (L.getD i [])
theorem LLr.below {W W' : World} {b o : Nat} {L : List (List Int)} {ad : Nat → Option Addr} {cp : Nat → Nat} (h : LLr W b o L ad cp) (hb : Below W.heap.size W W') : LLr W' b o L ad cp :=
  ⟨fun h0 => Nat.lt_of_lt_of_le (h.1 h0) hb.size, fun i hi => ⟨(hb.cell (p := ⟨b, o + i, none⟩) (h.1 (by omega))).trans (h.2 i hi).1, (h.2 i hi).2.below hb (Nat.le_refl _)⟩⟩
def IsLL (L : List (List Int)) (v : Value) (W : World) : Prop := ∃ a c b o ad cp, v = .slice a L.length c ∧ L.length ≤ c ∧ (0 < L.length → a = some ⟨b, o, none⟩) ∧ LLr W b o L ad cp
theorem IsLL.below {L : List (List Int)} {v : Value} {W W' : World} (h : IsLL L v W) (hb : Below W.heap.size W W') : IsLL L v W' := by
  obtain ⟨a, c, b, o, ad, cp, e, h1, h2, h3⟩ := h; exact ⟨a, c, b, o, ad, cp, e, h1, h2, h3.below hb⟩
theorem infoL : (Try.prog.info? 25).map (fun i => (i.zero, i.size, i.bytes)) = some (some (.slice none 0 0), 1, 24) := by kernel_rfl
theorem Ii.cellsAt {W : World} {b o n c : Nat} {xs : List Int} (h : Ii W (some ⟨b, o, none⟩) n c xs) : xs = [] ∨ ¬ NoCells W b := by
  by_cases h0 : 0 < xs.length
  · obtain ⟨b', off, e', hlt, hc⟩ := h.at h0
    cases e'
    refine .inr fun hn => ?_
    have hc0 := hc 0 h0
    have hx : W.heap[b]? = some W.heap[b] := Array.getElem?_eq_getElem hlt
    cases hy : W.heap[b] with
    | cells cs T m => rw [hy] at hx; exact hn _ _ _ hx
    | _ => rw [hy] at hx; simp [World.cell?, hx] at hc0
  · exact .inl (List.eq_nil_of_length_eq_zero (by omega))
theorem OwnN.keep {T : TypeId} {z B n c : Nat} {cs : List Value} {a : Option Addr} {S : Nat → Prop} {W W' : World} (h : OwnN T z B n cs a c W) (hk : KeepP S W W') (hn : ∀ g, a = some ⟨g, 0, none⟩ → ¬ S g) : OwnN T z B n cs a c W' := by
  rcases h with h | ⟨g, e, h⟩
  · exact .inl h
  · exact .inr ⟨g, e, h.same hk.size fun x hx => hk.block _ _ (hn g e) hx⟩
def ColI (w : World) (V b2 : Nat) (L : List (List Int)) (i : Nat) (G : Nat → Prop) (W : World) : Prop :=
  Below w.heap.size w W ∧ V ≤ W.heap.size ∧ ∃ (a : Option Addr) (c : Nat) (cs : List Value), W.heap[b2]? = some (.cells #[.slice a i c] 26 (0, 0)) ∧ OwnN 25 1 w.heap.size i cs a c W ∧ cs.length = i ∧ (∀ g, a = some ⟨g, 0, none⟩ → V ≤ g) ∧ (∀ b, G b ↔ b = b2 ∨ a = some ⟨b, 0, none⟩) ∧
    ∀ j, j < i → ∃ a' c', cs[j]? = some (.slice a' (L.getD j []).length c') ∧ Ii W a' (L.getD j []).length c' (L.getD j []) ∧ ∀ b o, a' = some ⟨b, o, none⟩ → L.getD j [] = [] ∨ ¬ G b
theorem colI_stab {w : World} {V b2 : Nat} {L : List (List Int)} (hV : w.heap.size ≤ V) (hb2 : b2 < V) : StabG (ColI w V b2 L) V := by
  rintro i G W W' ⟨h1, h2, a, c, cs, h3, h4, h5, h5', h6, h7⟩ hk
  refine ⟨h1.trans (hk.below (fun b hb => by omega) h1.size), Nat.le_trans h2 hk.size, a, c, cs, hk.block _ _ (fun e => by omega) h3, h4.keep hk (fun g e hs => hs.2.1 ((h6 g).2 (.inr e))), h5, h5', h6, fun j hj => ?_⟩
  obtain ⟨a', c', e, hi, hg⟩ := h7 j hj
  refine ⟨a', c', e, hi.keep hk fun b o eb => ?_, hg⟩
  subst eb
  exact hi.cellsAt.imp id fun hc hs => hc hs.2.2
theorem patL_len {p : Tp} (hp : TpIn p) (os : Nat → To) (no : Nat) : ∀ (d : Nat) (xs : List Int), (patL p os no d xs).length ≤ 5 ^ d
  | 0, xs => by unfold patL; split <;> simp
  | d + 1, xs => by
    have h : ∀ k, patN p os no d xs k ≤ k * 5 ^ d := by
      intro k
      induction k with
      | zero => exact Nat.zero_le _
      | succ k ih => rw [patN, Nat.add_mul, Nat.one_mul]; exact Nat.add_le_add ih (patL_len hp os no d _)
    rw [← patN_end]
    refine Nat.le_trans (h _) ?_
    rw [Nat.pow_succ, Nat.mul_comm]
    exact Nat.mul_le_mul_left _ (by have := hp.webs; omega)
theorem patL_len4 {p : Tp} (hp : TpIn p) (os : Nat → To) (no : Nat) (gno : no ≤ 4) (xs : List Int) : (patL p os no no xs).length ≤ 1000 :=
  Nat.le_trans (patL_len hp os no no xs) (Nat.le_trans (Nat.pow_le_pow_right (by decide) gno) (by decide))
theorem inQ_valW {n : Nat} {P : Program} {ops : Array Oper} {Q : Exit → Act → World → Prop} {i d N l0 : Nat} {L : List Nat} {g : Nat → Value} {W W' : World} {o : Oper} {v : Value} (ho : ops[i]? = some o) (hg : o.guard = none) (hnd : ∀ c, o.op ≠ .defer c) (hd : o.dst = some d) (hr : (execOp (fr N g).eval o).run P W = .ok (.value v) W')
    (h : wpOpsIn (Fence.wide.inRound l0) n P ops Q L (fr N (upd g d v)) W') : wpOpsIn (Fence.wide.inRound l0) n P ops Q (i :: L) (fr N g) W := by
  rw [wpOpsIn_cons]
  unfold wpOpIn
  simp only [ho, Region.wanted, hg, if_true]
  refine ⟨fun _ _ => trivial, ?_⟩
  rw [Oper.semAt_eq _ _ _ hnd]
  show o.uponIn _ _ _ _ _ _ ((execOp (fr N g).eval o).run P W)
  rw [hr]
  show wpOpsIn _ _ _ _ _ _ ((fr N g).put o.dst v) W'
  rw [hd, fr_put]; exact h
theorem inQ_skip {n : Nat} {P : Program} {ops : Array Oper} {Q : Exit → Act → World → Prop} {i N l0 : Nat} {L : List Nat} {g : Nat → Value} {W W' : World} {o : Oper} (ho : ops[i]? = some o) (hg : o.guard = none) (hnd : ∀ c, o.op ≠ .defer c) (hd : o.dst = none) (hr : (execOp (fr N g).eval o).run P W = .ok .skip W')
    (h : wpOpsIn (Fence.wide.inRound l0) n P ops Q L (fr N g) W') : wpOpsIn (Fence.wide.inRound l0) n P ops Q (i :: L) (fr N g) W := by
  rw [wpOpsIn_cons]
  unfold wpOpIn
  simp only [ho, Region.wanted, hg, if_true]
  refine ⟨fun _ _ => trivial, ?_⟩
  rw [Oper.semAt_eq _ _ _ hnd]
  show o.uponIn _ _ _ _ _ _ ((execOp (fr N g).eval o).run P W)
  rw [hr]
  show wpOpsIn _ _ _ _ _ _ ((fr N g).put o.dst undef) W'
  rw [hd]; exact h
theorem colI_done {w Z W : World} {V b2 : Nat} {L : List (List Int)} {G : Nat → Prop} (h : ColI w V b2 L L.length G Z) {a : Option Addr} {c : Nat} (h3 : Z.heap[b2]? = some (.cells #[.slice a L.length c] 26 (0, 0))) (hb : Below Z.heap.size Z W) : IsLL L (.slice a L.length c) W := by
  obtain ⟨h1, h2, a', c', cs, h3', h4, h5, h5', h6, h7⟩ := h
  rw [h3] at h3'
  simp only [Option.some.injEq, Obj.cells.injEq, Array.mk.injEq, List.cons.injEq, Value.slice.injEq, and_true, true_and] at h3'
  obtain ⟨rfl, rfl⟩ := h3'
  have hx : ∀ j : Nat, ∃ q : Option Addr × Nat, j < L.length → cs[j]? = some (.slice q.1 (L.getD j []).length q.2) ∧ Ii Z q.1 (L.getD j []).length q.2 (L.getD j []) := fun j => by
    by_cases hj : j < L.length
    · obtain ⟨a', c', e1, e2, -⟩ := h7 j hj; exact ⟨(a', c'), fun _ => ⟨e1, e2⟩⟩
    · exact ⟨(none, 0), fun h => absurd h hj⟩
  have hq : ∃ q : Nat → Option Addr × Nat, ∀ j, j < L.length → cs[j]? = some (.slice (q j).1 (L.getD j []).length (q j).2) ∧ Ii Z (q j).1 (L.getD j []).length (q j).2 (L.getD j []) := ⟨fun j => Classical.choose (hx j), fun j => Classical.choose_spec (hx j)⟩
  obtain ⟨q, hq⟩ := hq
  rcases h4 with ⟨ha, hn, hc, hcs⟩ | ⟨g, ha, hr⟩
  · refine ⟨a, c, 0, 0, fun j => (q j).1, fun j => (q j).2, rfl, by omega, fun h => by omega, fun h => by omega, fun i hi => by omega⟩
  · refine ⟨a, c, g, 0, fun j => (q j).1, fun j => (q j).2, rfl, ?_, fun _ => ha, ?_⟩
    · rcases hr.2.2.2 with ⟨e, -⟩ | ⟨g', cap, cur, e, h8, -, h9, -⟩
      · cases e
      · cases e; exact h9
    · refine LLr.below ⟨fun _ => hr.2.1, fun i hi => ⟨?_, (hq i hi).2⟩⟩ hb
      rw [Nat.zero_add]
      exact hr.cell i (hq i hi).1
theorem appendSeq_pats (p : Tp) (os : Nat → To) (bo oo no co : Nat) (bw bm cx : Nat) (w : World) (hO : OrdR w bo oo no os) (hp : TpIn p) (ho : ∀ i, i < no → ToIn (os i)) (gno : no ≤ 4) (hX0 : Ii w none 0 cx []) (hbm : w.heap[bm]? = some (.cells #[.int .i64 p.wide, .int .i64 p.tlo, .int .i64 p.thi, .int .i64 p.webs, .slice (some ⟨bo, oo, none⟩) no co] 110 (0, 0))) (hbw : w.heap[bw]? = some (.cells #[.slice none 0 cx] 25 (0, 0))) :
    Calls Try.prog 140 #[.slice none 0 0, .func (.func 141) #[] #[.pointer (some ⟨bw, 0, none⟩), .pointer (some ⟨bm, 0, none⟩)]] w (fun e w' => ∃ v, e = .returned v ∧ IsLL (patL p os no no []) v w' ∧ Below w.heap.size w w') := by
  refine calls_frM (n := 9) Try.func140 Try.ntmps140 rfl rfl fun g hg => ?_
  have k0 : g 0 = .slice none 0 0 := hg 0
  have k1 : g 1 = .func (.func 141) #[] #[.pointer (some ⟨bw, 0, none⟩), .pointer (some ⟨bm, 0, none⟩)] := hg 1
  clear hg
  have fB0 : Below w.heap.size w w := Below.refl _ _
  have lt_bm := ltb hbm
  have lt_bw := ltb hbw
  refine rw_ 2 [(2, 0), (4, 1)] [[], []] (rel [bx 0 #[.slice none 0 0] 26, is (.slice none 0 0)])
    ⟨fun f s W m q u y z d => opb rfl rfl (by simp [go_sem, d.e 0 k0]),
    fun f s W m q u y z d => opv rfl rfl (by simp [go_sem]) rfl, trivial⟩ ?_
  intro f1 s1 W1 hB1 g1 hg1 z1
  obtain ⟨r1_0, br1_0⟩ := hB1.is 0
  have lr1_0 := hB1.lr 0 br1_0
  have k1_1 := kt hg1 1 k1
  refine wp_seq_k fun K2 hK2 => ?_
  refine rw_ 1 [(6, 0)] [[]] (rel [is (.func (.func 141) #[] #[.pointer (some ⟨bw, 0, none⟩), .pointer (some ⟨bm, 0, none⟩)])])
    ⟨fun f s W m q u y z d => opv rfl rfl (by simp [go_sem, d.e 1 k1_1]) rfl, trivial⟩ ?_
  intro f2 s2 W2 hB2 g2 hg2 z2
  have fB2 := hB2.f (hB1.f fB0)
  have b2_0 := hB2.b (hB1.b hbm)
  have b2_1 := hB2.b (hB1.b hbw)
  have b2_2 := hB2.b br1_0
  have k2_2 := kt hg2 2 (kt hg1 2 r1_0)
  have k2_6 := kt hg2 6 (hB2.is 0)
  refine wp_block ?_
  have lt_2 := ltb b2_2; have lt_bm' := ltb b2_0; have lt_bw' := ltb b2_1
  obtain ⟨b2, hb2⟩ : ∃ b, (s1 0) = b := ⟨_, rfl⟩
  have hx2 : W2.heap[b2]? = some (.cells #[.slice none 0 0] 26 (0, 0)) := hb2 ▸ b2_2
  have k2' : g2 2 = .pointer (some ⟨b2, 0, none⟩) := hb2 ▸ k2_2
  have lt_b2 := ltb hx2; have hb2w : w.heap.size ≤ b2 := by rw [← hb2]; omega
  obtain ⟨V, hV⟩ : ∃ V, W2.heap.size = V := ⟨_, rfl⟩
  obtain ⟨AA, hA⟩ : ∃ A : Nat → (Nat → Prop) → Act → World → Prop, A = fun j G_ a' W_ => ∃ g' : Nat → Value, a' = fr 13 g' ∧ g' 2 = .pointer (some ⟨b2, 0, none⟩) ∧ ∃ a c, g' 5 = .slice a ((patL p os no no []).getD j []).length c ∧ Ii W_ a ((patL p os no no []).getD j []).length c ((patL p os no no []).getD j []) ∧ ∀ b o, a = some ⟨b, o, none⟩ → (patL p os no no []).getD j [] = [] ∨ ¬ G_ b := ⟨_, rfl⟩
  refine (wpIn_wide (n := 10)).1 (range_g (n := 10) (gf := 141) (rcv := #[]) (lb := #[.pointer (some ⟨bw, 0, none⟩), .pointer (some ⟨bm, 0, none⟩)]) ((fr_eval rfl).trans k2_6) (enters_of Try.func141 (by kernel_rfl) rfl) (patL p os no no []).length (EncP (patL p os no no [])) (fun i G v W h => by obtain ⟨a, n, c, e, -⟩ := h; rw [e]; rfl) (ColI w V b2 (patL p os no no [])) (hV ▸ colI_stab (by omega) (by omega)) (fun b => b = b2) (fun b h => by omega) ?hit ?h0 AA ?hAp ?hassign ?hbody ?hdone)
  case hit =>
    intro l' W1 J' hl hl1 hb1 hJ's hJ'I hY' hJ0'
    have hz1 := hb1.size
    exact pats_it p os bo oo no co hO hp ho gno no [] none 0 cx bm bw l' (fun b => b = b2) J' W1 (Nat.zero_add _) (fun x hx => nomatch hx) (fB2.trans (hb1.mono fB2.size)) (bwb b2_0 hb1) (bwb b2_1 hb1) (hX0.below (Below.trans fB2 (hb1.mono fB2.size)) (Nat.le_refl _)) (.inl ⟨rfl, rfl⟩) hJ's (fun i G_ X h b hb => by obtain ⟨h1, h2, a, c, cs, h3, h4, h5, h5', h6, h7⟩ := hJ'I i G_ X h; rcases (h6 b).1 hb with rfl | e; exact ⟨hb2w, ltb h3⟩; exact ⟨(h4.lim b e).1, (h4.lim b e).2⟩) (fun b hb => ⟨fun e => by omega, fun e => by omega, fun b' o e => by cases e⟩) hY' hJ0'
  case h0 => exact ⟨fB2, Nat.le_of_eq hV.symm, none, 0, [], hx2, ownN_nil, rfl, (fun g e => nomatch e), (fun b => by simp), fun j hj => absurd hj (Nat.not_lt_zero _)⟩
  case hAp =>
    subst hA
    rintro j G_ a' X r o hl ⟨g', h1, h2, a, c, h3, h4, h5⟩
    exact ⟨g', h1, h2, a, c, h3, h4.putLoop hl, h5⟩
  case hassign =>
    rintro l' j G_ X v K hj hIX hsz ⟨a, n, c, rfl, hv, hvg⟩ hK
    obtain rfl := hv.1
    obtain ⟨Sv, hSv⟩ : ∃ v : Value, .slice a ((patL p os no no []).getD j []).length c = v := ⟨_, rfl⟩
    rw [hSv]
    have e : ({ tmps := ((#[7] : Array Tmp).zip #[Sv]).foldl (fun t (p, v) => t.setIfInBounds p v) (fr 13 g2).tmps, defers := [] } : Act) = fr 13 (upd g2 7 Sv) := by
      rw [foldl_one]; exact fr_set
    rw [e]
    have u7 : upd g2 7 Sv 7 = Sv := upd_same _ _ _
    refine wpIn_region ?_
    show wpOpsIn _ _ _ _ _ [0] _ _
    refine inQ_value (o := _) rfl rfl (fun _ h => nomatch h) rfl (v := Sv) (by simp [go_sem, frv 13 u7]) ?_
    refine hK _ _ (Below.refl _ _) ?_
    subst hA
    exact ⟨_, rfl, (upd_other _ _ (by decide)).trans ((upd_other _ _ (by decide)).trans k2'), a, c, (upd_same _ _ _).trans hSv.symm, hv, hvg⟩
  case hbody =>
    intro l' j G_ a' X hj hIX hAX
    subst hA
    obtain ⟨g', rfl, q2, a0, c0, q5, hv, hvg⟩ := hAX
    obtain ⟨h1, h2, a, c, cs, h3, h4, h5, h5', h6, h7⟩ := hIX
    refine wpIn_block (wpIn_region ?_)
    show wpOpsIn (Fence.wide.inRound l') _ _ _ _ [0, 1, 2, 3, 4] _ _
    have hlj : j < 1000 := Nat.lt_of_lt_of_le hj (patL_len4 hp os no gno [])
    obtain ⟨xj, hxj⟩ : ∃ x, (patL p os no no []).getD j [] = x := ⟨_, rfl⟩
    rw [hxj] at q5 hv hvg
    obtain ⟨Sv, hSv⟩ : ∃ v : Value, .slice a0 xj.length c0 = v := ⟨_, rfl⟩
    have hS1 : Sv.oneCell' = true := hSv ▸ rfl
    rw [hSv] at q5
    have u8 : upd g' 8 (.slice a j c) 5 = Sv := (upd_other _ _ (by decide)).trans q5
    have u9 : upd (upd g' 8 (.slice a j c)) 9 Sv 9 = Sv := upd_same _ _ _
    refine inQ_value (o := _) rfl rfl (fun _ h => nomatch h) rfl (v := .slice a j c) (by simp [go_sem, frv 13 q2, cl h3 0]) ?_
    refine inQ_value (o := _) rfl rfl (fun _ h => nomatch h) rfl (v := Sv) (by simp [go_sem, frv 13 u8]) ?_
    refine inQ_valW (o := _) rfl rfl (fun _ h => nomatch h) rfl (v := .slice (some ⟨X.heap.size, 0, none⟩) 1 1) (W' := X.alloc (.cells #[Sv] 25 (0, 0))) (by subst hSv; simp [go_sem, frv 13 u9]) ?_
    obtain ⟨X1, hX1⟩ : ∃ Y, X.alloc (.cells #[Sv] 25 (0, 0)) = Y := ⟨_, rfl⟩
    rw [hX1]
    have hb1 : Below X.heap.size X X1 := hX1 ▸ (Below.refl _ X).alloc (Nat.le_refl _) _
    have hn1 : X1.heap[X.heap.size]? = some (.cells #[Sv] 25 (0, 0)) := hX1 ▸ World.alloc_heap_new X _
    have fX1 := bwt h1 hb1; have zX1 := hb1.size
    have h3' := bwb h3 hb1
    obtain ⟨g2, c2, X2, ra, ow, ot, z2, gg, fX2⟩ := growN_tail 26 26 25 1 24 (.slice none 0 0) (by kernel_rfl) infoL rfl (cs ++ [Sv]) (j + 1) (off := 0) (k := 1) (c' := 1) [Sv] fX1 (h4.below hb1) rfl rfl rfl (by simp [hS1]) (cells_at hn1) (by omega)
    have v8 : upd (upd (upd g' 8 (.slice a j c)) 9 Sv) 10 (.slice (some ⟨X.heap.size, 0, none⟩) 1 1) 8 = .slice a j c := (upd_other _ _ (by decide)).trans ((upd_other _ _ (by decide)).trans (upd_same _ _ _))
    have v10 : upd (upd (upd g' 8 (.slice a j c)) 9 Sv) 10 (.slice (some ⟨X.heap.size, 0, none⟩) 1 1) 10 = .slice (some ⟨X.heap.size, 0, none⟩) 1 1 := upd_same _ _ _
    refine inQ_valW (o := _) rfl rfl (fun _ h => nomatch h) rfl (run_appendOp (fr_ev v8) (fr_ev v10) ra) ?_
    have hne := ownN_ne h4 h3 (by decide)
    have h3x := ot _ _ hne h3'
    have v2 : upd (upd (upd (upd g' 8 (.slice a j c)) 9 Sv) 10 (.slice (some ⟨X.heap.size, 0, none⟩) 1 1)) 11 (.slice (some ⟨g2, 0, none⟩) (j + 1) c2) 2 = .pointer (some ⟨b2, 0, none⟩) := (upd_other _ _ (by decide)).trans ((upd_other _ _ (by decide)).trans ((upd_other _ _ (by decide)).trans ((upd_other _ _ (by decide)).trans q2)))
    have v11 : upd (upd (upd (upd g' 8 (.slice a j c)) 9 Sv) 10 (.slice (some ⟨X.heap.size, 0, none⟩) 1 1)) 11 (.slice (some ⟨g2, 0, none⟩) (j + 1) c2) 11 = .slice (some ⟨g2, 0, none⟩) (j + 1) c2 := upd_same _ _ _
    obtain ⟨X3, hX3⟩ : ∃ Y, Y = X2.setRow b2 #[.slice (some ⟨g2, 0, none⟩) (j + 1) c2] := ⟨_, rfl⟩
    refine inQ_skip (o := _) rfl rfl (fun _ h => nomatch h) rfl (run_seg hX3 (fr_ev v2) (fr_ev v11) h3x rfl rfl rfl rfl) ?_
    obtain ⟨fX3, nb, ot3, z3⟩ := sgf hX3 fX2 h3x hb2w
    clear hX3
    have hg2 : g2 ≠ b2 := fun e => by rcases gg with gg | gg; exact hne g2 gg e; have := ltb h3; omega
    have hG2 : ∀ b, b = b2 ∨ b = g2 → G_ b ∨ X.heap.size ≤ b := fun b hb => by rcases hb with rfl | rfl; exact .inl ((h6 _).2 (.inl rfl)); rcases gg with gg | gg; exact .inl ((h6 _).2 (.inr gg)); exact .inr (by omega)
    have hkeep : KeepP G_ X X3 := ⟨fX3.os.trans h1.os.symm, fX3.tape.trans h1.tape.symm, fX3.output.trans h1.output.symm, by omega, fun k o hk hx => ot3 _ _ (fun e => hk ((h6 _).2 (.inl e))) (ot _ _ (fun g e h => hk ((h6 _).2 (.inr (h ▸ e)))) ((hb1.block _ (Array.getElem?_eq_some_iff.1 hx).1).trans hx))⟩
    refine ⟨rfl, fun b => b = b2 ∨ b = g2, ⟨fX3, by omega, some ⟨g2, 0, none⟩, c2, cs ++ [Sv], nb, .inr ⟨g2, rfl, ow.other ot3 hg2 z3⟩, by simp [h5], fun g e => ?_, fun b => by simp [eq_comm], fun i hi => ?_⟩, hkeep, hG2⟩
    · cases e; rcases gg with gg | gg; exact h5' _ gg; omega
    · rcases Nat.lt_or_ge i j with hij | hij
      · obtain ⟨a', c', e1, e2, e3⟩ := h7 i hij
        refine ⟨a', c', by rw [List.getElem?_append_left (by omega)]; exact e1, e2.keep hkeep (fun b o e => e3 b o e), fun b o e => ?_⟩
        rcases e2.blk b o e with hx | hx
        · exact .inl hx
        · refine (e3 b o e).imp id fun hG hb => (hG2 b hb).elim hG (fun h => by omega)
      · obtain rfl : i = j := by omega
        rw [hxj]
        refine ⟨a0, c0, by rw [List.getElem?_append_right (by omega), h5, Nat.sub_self, ← hSv]; rfl, hv.keep hkeep hvg, fun b o e => ?_⟩
        rcases hv.blk b o e with hx | hx
        · exact .inl hx
        · refine (hvg b o e).imp id fun hG hb => (hG2 b hb).elim hG (fun h => by omega)
  case hdone =>
    intro D G' Z hD hnD hIZ hdZ
    have hCZ := hIZ
    obtain ⟨h1, h2, a, c, cs, h3, h4, h5, h5', h6, h7⟩ := hIZ
    have eD : ({ fr 13 g2 with defers := { target := .collected D, args := #[] } :: (fr 13 g2).defers } : Act) = frD [mkD D] 13 g2 := rfl
    rw [eD]
    have hDb : D ≠ b2 := fun e => by rw [e, h3] at hdZ; cases hdZ
    refine ibn ?_
    refine hK2 _ _ ?_
    refine wp_seq_k fun K4 hK4 => ?_
    refine region_doD 2 [(12, 0), (4, 1)] [[], [0]] (rel [is (.slice (a) ((patL p os no no []).length) (c)),
      is (.slice (a) ((patL p os no no []).length) (c))]) (by kernel_rfl) (by kernel_rfl) (by kernel_rfl) (by kernel_rfl)
      ⟨is_k, is_k, trivial⟩
      ⟨fun f s W m q u y z d => opv rfl rfl (by simp [go_sem, d.e 2 k2', cb h3 m 0]) rfl,
    fun f s W m q u y z d => opv rfl rfl (by simp [go_sem, d.e 12 (q 0 rfl)]) rfl, trivial⟩ ?_
    intro f3 s3 W3 hB3
    have fB3 := hB3.f h1
    have z3 := hB3.below.size
    have q41' := (hB3.b hdZ)
    have q42' := (bwt (Below.refl Z.heap.size Z) hB3.below)
    refine hK4 _ _ ?_
    generalize hg3 : ov [(12, 0), (4, 1)] f3 g2 = g3
    have k3_4 := kt hg3 4 (hB3.is 1)
    refine wp_ret ?_
    refine leave_mark (v := .slice (a) ((patL p os no no []).length) (c)) (.inr rfl) rfl rfl q41' (fun W' => by simp [results, Try.results140, go_sem, frD_evv (N := 13) (ds := [mkD D]) k3_4]) ?_
    have hput := Below.trans fB3 (below_put (W := W3) (l := D) (o := .deferred none) (by omega))
    have hkF : KeepP (fun b => V ≤ b ∧ ¬ G' b ∧ NoCells Z b) Z (W3.putObj D (.deferred none)) := (KeepP.of_below q42').trans ⟨rfl, rfl, rfl, by rw [putObj_size]; exact Nat.le_refl _, fun k x hk hx => (World.putObj_heap_other (fun e => hk (by subst e; exact ⟨by omega, hnD, noCells_of hdZ (fun _ _ _ h => nomatch h)⟩))).trans hx⟩
    refine ⟨_, rfl, ?_, hput⟩
    exact colI_done (colI_stab (by omega) (by omega) _ _ _ _ hCZ hkF) (hkF.block _ _ (fun e => by omega) h3) (Below.refl _ _)
theorem collect_pats (p : Tp) (os : Nat → To) (bo oo no co : Nat) (bw bm : Nat) (w : World) (hO : OrdR w bo oo no os) (hp : TpIn p) (ho : ∀ i, i < no → ToIn (os i)) (gno : no ≤ 4) (hbm : w.heap[bm]? = some (.cells #[.int .i64 p.wide, .int .i64 p.tlo, .int .i64 p.thi, .int .i64 p.webs, .slice (some ⟨bo, oo, none⟩) no co] 110 (0, 0))) (hbw : w.heap[bw]? = some (.cells #[.slice none 0 0] 25 (0, 0))) :
  Calls Try.prog 110 #[.func (.func 141) #[] #[.pointer (some ⟨bw, 0, none⟩), .pointer (some ⟨bm, 0, none⟩)]] w (fun e w' => ∃ v, e = .returned v ∧ IsLL (patL p os no no []) v w' ∧ Below w.heap.size w w') := by
 refine calls_fr Try.func110 Try.ntmps110 rfl rfl fun g hg => ?_
 have k0 : g 0 = .func (.func 141) #[] #[.pointer (some ⟨bw, 0, none⟩), .pointer (some ⟨bm, 0, none⟩)] := hg 0
 clear hg
 have fB0 : Below w.heap.size w w := Below.refl _ _
 have lt_bm := ltb hbm
 have lt_bw := ltb hbw
 refine rw_ 1 [(2, 0)] [[]] (rel [is (.slice none 0 0)])
  ⟨fun f s W c d j k l a => opv rfl rfl (by simp [go_sem]) rfl, trivial⟩ ?_
 intro f1 s1 W1 hB1 g1 hg1 z1
 have fB1 := hB1.f fB0
 have b1_0 := hB1.b hbm
 have b1_1 := hB1.b hbw
 have k1_0 := kt hg1 0 k0
 refine rx 3 [(3, 0), (4, 1), (2, 2)] [[], [0], [1]] (rel [is (.func (.func 141) #[] #[.pointer (some ⟨bw, 0, none⟩), .pointer (some ⟨bm, 0, none⟩)]), ab fun v W => IsLL (patL p os no no []) v W, ab fun v W => IsLL (patL p os no no []) v W])
  ⟨is_k, ab_k fun v W W' hb h => (h.below hb), ab_k fun v W W' hb h => (h.below hb), trivial⟩
  ⟨fun f s W c d j k l a => opm (a.v 0 k1_0),
  fun f s W c d j k l a => by have m := bwt fB1 c; exact opd (args := #[.slice none 0 0, .func (.func 141) #[] #[.pointer (some ⟨bw, 0, none⟩), .pointer (some ⟨bm, 0, none⟩)]]) rfl rfl (by simp [go_sem, a.e 3 (d 0 rfl)]) (appendSeq_pats p os bo oo no co bw bm 0 W (hO.below m) hp ho gno ⟨rfl, Nat.le_refl _, by unfold maxLen; omega, fun _ => rfl, .inl rfl⟩ (bwb b1_0 c) (bwb b1_1 c)) ((fun e W' h => by obtain ⟨v, e1, h1, h2⟩ := h; exact ⟨_, e1, h2, h1⟩)),
  fun f s W c d j k l a => opv (v := (f 1)) rfl rfl (by simp [go_sem, (a.at' 4 rfl : l.tmps[4]?.getD undef = f 1)] <;> rfl) (d 1 rfl), trivial⟩ ?_
 intro f2 s2 W2 hB2 g2 hg2 z2
 have fB2 := hB2.f fB1
 obtain ⟨a52', c53', b54', o55', ad56', cp57', r2_2, q59', q60', q58'⟩ := hB2.is 2
 have k2_2 := kt hg2 2 r2_2
 refine wp_ret ?_
 refine leave_one (N := 5) (.inr rfl) Try.results110 rfl k2_2 ?_
 exact ⟨_, rfl, ⟨_, _, _, _, _, _, rfl, q59', q60', q58'⟩, fB2⟩
theorem all_pats (p : Tp) (os : Nat → To) (bo oo no co : Nat) (w : World) (hO : OrdR w bo oo no os) (hp : TpIn p) (ho : ∀ i, i < no → ToIn (os i)) (gno : no ≤ 4) :
  Calls Try.prog 64 #[.agg #[.int .i64 p.wide, .int .i64 p.tlo, .int .i64 p.thi, .int .i64 p.webs, .slice (some ⟨bo, oo, none⟩) no co]] w (fun e w' => ∃ v, e = .returned v ∧ IsLL (patL p os no no []) v w' ∧ Below w.heap.size w w') := by
 refine calls_fr Try.func64 Try.ntmps64 rfl rfl fun g hg => ?_
 have k0 : g 0 = .agg #[.int .i64 p.wide, .int .i64 p.tlo, .int .i64 p.thi, .int .i64 p.webs, .slice (some ⟨bo, oo, none⟩) no co] := hg 0
 clear hg
 have fB0 : Below w.heap.size w w := Below.refl _ _
 refine rw_ 2 [(1, 0), (2, 1)] [[], []] (rel [bx 0 #[.int .i64 p.wide, .int .i64 p.tlo, .int .i64 p.thi, .int .i64 p.webs, .slice (some ⟨bo, oo, none⟩) no co] 110, is (.slice none 0 0)])
  ⟨fun f s W c d j k l a => opb rfl rfl (by simp [go_sem, a.e 0 k0]),
  fun f s W c d j k l a => opv rfl rfl (by simp [go_sem]) rfl, trivial⟩ ?_
 intro f1 s1 W1 hB1 g1 hg1 z1
 have fB1 := hB1.f fB0
 obtain ⟨r1_0, br1_0⟩ := hB1.is 0
 have lr1_0 := hB1.lr 0 br1_0
 have k1_1 := kt hg1 1 r1_0
 refine rx 4 [(3, 0), (4, 1), (5, 2), (2, 3)] [[], [0], [1], [2]] (rel [is (.agg #[.int .i64 p.wide, .int .i64 p.tlo, .int .i64 p.thi, .int .i64 p.webs, .slice (some ⟨bo, oo, none⟩) no co]), ab fun v W => PtV W1.heap.size p bo oo no co none 0 0 v W, ab fun v W => IsLL (patL p os no no []) v W, ab fun v W => IsLL (patL p os no no []) v W])
  ⟨is_k, ab_k fun v W W' hb h => h.below hb, ab_k fun v W W' hb h => (h.below hb), ab_k fun v W W' hb h => (h.below hb), trivial⟩
  ⟨fun f s W c d j k l a => opl rfl rfl rfl (a.v 1 k1_1) (bwb br1_0 c) Try.underlying110 rfl (by kernel_rfl) rfl,
  fun f s W c d j k l a => opd rfl rfl (by simp [go_sem, a.e 3 (d 0 rfl)]) (patterns_fn p bo oo no co none 0 0 W) ((fun e W' h => by obtain ⟨v, e1, ⟨bw_, bm_, e2, e3, e4, e5, e6⟩, h2⟩ := h; exact ⟨_, e1, h2, ⟨bw_, bm_, e2, e3, e4, Nat.le_trans c.size e5, Nat.le_trans c.size e6⟩⟩)),
  fun f s W c d j k l a => by obtain ⟨bw61', bm62', d1, q63', q64', q65', q66'⟩ := (d 1 rfl); have m := bwt fB1 c; exact opd (args := #[.func (.func 141) #[] #[.pointer (some ⟨bw61', 0, none⟩), .pointer (some ⟨bm62', 0, none⟩)]]) rfl rfl (by simp [go_sem, a.e 4 d1]) (collect_pats p os bo oo no co _ _ W (hO.below m) hp ho gno q64' q63') ((fun e W' h => by obtain ⟨v, e1, h1, h2⟩ := h; exact ⟨_, e1, h2, h1⟩)),
  fun f s W c d j k l a => opv (v := (f 2)) rfl rfl (by simp [go_sem, (a.at' 5 rfl : l.tmps[5]?.getD undef = f 2)] <;> rfl) (d 2 rfl), trivial⟩ ?_
 intro f2 s2 W2 hB2 g2 hg2 z2
 have fB2 := hB2.f fB1
 obtain ⟨a76', c77', b78', o79', ad80', cp81', r2_3, q83', q84', q82'⟩ := hB2.is 3
 have k2_2 := kt hg2 2 r2_3
 refine wp_ret ?_
 refine leave_one (N := 6) (.inr rfl) Try.results64 rfl k2_2 ?_
 exact ⟨_, rfl, ⟨_, _, _, _, _, _, rfl, q83', q84', q82'⟩, fB2⟩
theorem tr_Patterns (p : Tp) (os : Nat → To) (bo oo no co : Nat) (w : World) (hO : OrdR w bo oo no os) (hp : TpIn p) (ho : ∀ i, i < no → ToIn (os i)) (gno : no ≤ 4) :
  Calls Try.prog 33 #[.agg #[.int .i64 p.wide, .int .i64 p.tlo, .int .i64 p.thi, .int .i64 p.webs], .slice (some ⟨bo, oo, none⟩) no co] w (fun e w' => ∃ v, e = .returned (.tuple #[v, .int .i64 0]) ∧ IsLL (patL p os no no []) v w' ∧ Below w.heap.size w w') := by
 refine calls_fr Try.func33 Try.ntmps33 rfl rfl fun g hg => ?_
 have k0 : g 0 = .agg #[.int .i64 p.wide, .int .i64 p.tlo, .int .i64 p.thi, .int .i64 p.webs] := hg 0
 have k1 : g 1 = .slice (some ⟨bo, oo, none⟩) no co := hg 1
 clear hg
 have fB0 : Below w.heap.size w w := Below.refl _ _
 refine rw_ 3 [(2, 0), (4, 1), (5, 2)] [[], [], []] (rel [bx 0 #[.int .i64 p.wide, .int .i64 p.tlo, .int .i64 p.thi, .int .i64 p.webs] 61, is (.slice none 0 0), iI 0])
  ⟨fun f s W c d j k l a => opb rfl rfl (by simp [go_sem, a.e 0 k0]),
  fun f s W c d j k l a => opv rfl rfl (by simp [go_sem]) rfl,
  fun f s W c d j k l a => opz, trivial⟩ ?_
 intro f1 s1 W1 hB1 g1 hg1 z1
 have fB1 := hB1.f fB0
 obtain ⟨r1_0, br1_0⟩ := hB1.is 0
 have lr1_0 := hB1.lr 0 br1_0
 have k1_1 := kt hg1 1 k1
 have k1_2 := kt hg1 2 r1_0
 refine wp_seq_k fun K2 hK2 => ?_
 refine ry 7 [(9, 0), (10, 1), (11, 2), (8, 3), (12, 4), (13, 5), (6, 6), (7, 8)] [[], [], [0, 1], [2], [3], [3], [], [0, 1, 2, 3, 4, 6], [0, 1, 2, 3, 4, 5, 6, 7]] (rel [is (.agg #[.int .i64 p.wide, .int .i64 p.tlo, .int .i64 p.thi, .int .i64 p.webs]), is (.slice (some ⟨bo, oo, none⟩) no co), is (.tuple #[.agg #[.int .i64 p.wide, .int .i64 p.tlo, .int .i64 p.thi, .int .i64 p.webs, .slice (some ⟨bo, oo, none⟩) no co], .int .i64 0]), is (.tuple #[.agg #[.int .i64 p.wide, .int .i64 p.tlo, .int .i64 p.thi, .int .i64 p.webs, .slice (some ⟨bo, oo, none⟩) no co], .int .i64 0]), is (.agg #[.int .i64 p.wide, .int .i64 p.tlo, .int .i64 p.thi, .int .i64 p.webs, .slice (some ⟨bo, oo, none⟩) no co]), iI 0, bx 6 #[.int .i64 0, .int .i64 0, .int .i64 0, .int .i64 0, .slice none 0 0] 110])
  ⟨fun f s W c d j k l a => opl rfl rfl rfl (a.v 2 k1_2) (bwb br1_0 c) Try.underlying61 rfl (by kernel_rfl) rfl,
  fun f s W c d j k l a => opm (a.v 1 k1_1),
  fun f s W c d j k l a => by have m := bwt fB1 c; exact opc rfl rfl (by simp [go_sem, a.e 9 (d 0 rfl), a.e 10 (d 1 rfl)]) (tr_open p os bo oo no co W (hO.below m) hp ho gno),
  fun f s W c d j k l a => opm (a.v 11 (d 2 rfl)),
  fun f s W c d j k l a => opv rfl rfl (by simp [go_sem, a.e 8 (d 3 rfl)]) rfl,
  fun f s W c d j k l a => opv rfl rfl (by simp [go_sem, a.e 8 (d 3 rfl)]) rfl,
  fun f s W c d j k l a => opb rfl rfl (by simp [go_sem]), trivial⟩ ?_
 intro f2 s2 W2 hB2 g2 hg2 z2
 have fB2 := hB2.f fB1
 obtain ⟨r2_6, br2_6⟩ := hB2.is 6
 have lr2_6 := hB2.lr 6 br2_6
 have k2_12 := kt hg2 12 (hB2.is 4)
 have k2_13 := kt hg2 13 (hB2.is 5)
 have k2_6 := kt hg2 6 r2_6
 obtain ⟨W3, hW3⟩ : ∃ W', W' = W2.setRow (s2 6) #[.int .i64 p.wide, .int .i64 p.tlo, .int .i64 p.thi, .int .i64 p.webs, .slice (some ⟨bo, oo, none⟩) no co] := ⟨_, rfl⟩
 refine tsk (o := _) rfl ⟨rfl, rfl⟩ (run_seg hW3 (fr_ev k2_6) (fr_ev k2_12) br2_6 rfl rfl rfl rfl) ?_
 obtain ⟨fB3, nb3, ot3, z3⟩ := sgf hW3 fB2 br2_6 (by omega)
 clear hW3
 refine tail_value (o := _) rfl rfl rfl (v := .int .i64 0) (by simp [go_sem, frv 19 k2_13]) ?_
 generalize hg4 : upd g2 7 (.int .i64 0) = g4
 have k4_7 := kt hg4 7 (upd_same _ _ _)
 refine wpe ?_
 refine hK2 _ _ ?_
 refine wp_seq_k fun K3 hK3 => ?_
 refine rw_ 2 [(14, 0), (15, 1)] [[], [0]] (rel [iI 0, iB false])
  ⟨fun f s W c d j k l a => opm (a.v 7 k4_7),
  fun f s W c d j k l a => opv rfl rfl (by simp [go_sem, a.e 14 (d 0 rfl)]) rfl, trivial⟩ ?_
 intro f5 s5 W5 hB5 g5 hg5 z5
 have fB5 := hB5.f fB3
 have b5_1 := hB5.b nb3
 have k5_6 := kt hg5 6 (ku hg4 6 k2_6)
 have k5_15 := kt hg5 15 (hB5.is 1)
 refine wp_cond_false ((fr_eval rfl).trans k5_15) ?_
 refine wp_skip ?_
 refine hK3 _ _ ?_
 refine rx 4 [(17, 0), (18, 1), (4, 2), (5, 3)] [[], [0], [1], []] (rel [is (.agg #[.int .i64 p.wide, .int .i64 p.tlo, .int .i64 p.thi, .int .i64 p.webs, .slice (some ⟨bo, oo, none⟩) no co]), ab fun v W => IsLL (patL p os no no []) v W, ab fun v W => IsLL (patL p os no no []) v W, iI 0])
  ⟨is_k, ab_k fun v W W' hb h => (h.below hb), ab_k fun v W W' hb h => (h.below hb), is_k, trivial⟩
  ⟨fun f s W c d j k l a => opl rfl rfl rfl (a.v 6 k5_6) (bwb b5_1 c) Try.underlying110 rfl (by kernel_rfl) rfl,
  fun f s W c d j k l a => by have m := bwt fB5 c; exact opd rfl rfl (by simp [go_sem, a.e 17 (d 0 rfl)]) (all_pats p os bo oo no co W (hO.below m) hp ho gno) ((fun e W' h => by obtain ⟨v, e1, h1, h2⟩ := h; exact ⟨_, e1, h2, h1⟩)),
  fun f s W c d j k l a => opv (v := (f 1)) rfl rfl (by simp [go_sem, (a.at' 18 rfl : l.tmps[18]?.getD undef = f 1)] <;> rfl) (d 1 rfl),
  fun f s W c d j k l a => opz, trivial⟩ ?_
 intro f6 s6 W6 hB6 g6 hg6 z6
 have fB6 := hB6.f fB5
 obtain ⟨a94', c95', b96', o97', ad98', cp99', r6_2, q101', q102', q100'⟩ := hB6.is 2
 have k6_4 := kt hg6 4 r6_2
 have k6_5 := kt hg6 5 (hB6.is 3)
 refine wp_ret ?_
 refine leave_gen (v := .tuple #[.slice (a94') ((patL p os no no []).length) (c95'), .int .i64 0]) (.inr rfl) (by simp [results, Try.results33, go_sem, frv 19 k6_4, frv 19 k6_5]) ?_
 exact ⟨_, rfl, ⟨_, _, _, _, _, _, rfl, q101', q102', q100'⟩, fB6⟩
end Go.Proofs.Ytcgccflcjejlhaa
