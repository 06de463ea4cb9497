/- Part of the proof: what the claim leans on. -/
import Derived.Test.YtcgccflcjejlhaaDAH
import Derived.Test.YtcgccflcjejlhaaDAG
import Derived.Test.YtcgccflcjejlhaaDAC
set_option linter.unusedSimpArgs false
set_option linter.unusedVariables false
namespace Go.Proofs.Ytcgccflcjejlhaa
open Go.RowKit
/-- A row of lists: where they lie. -/
def LLr (W : World) (b o : Nat) (L : List (List Int)) (ad : Nat → Option Addr) (cp : Nat → Nat) : Prop := (0 < L.length → b < W.heap.size) ∧ ∀ i, i < L.length → W.cell? ⟨b, o + i, none⟩ = some (.slice (ad i) (L.getD i []).length (cp i)) ∧ Ii W (ad i) (L.getD i []).length (cp i) (L.getD i [])
theorem LLr.below {W W' : World} {b o : Nat} {L : List (List Int)} {ad : Nat → Option Addr} {cp : Nat → Nat} (h : LLr W b o L ad cp) (hb : Below W.heap.size W W') : LLr W' b o L ad cp :=
  ⟨fun h0 => Nat.lt_of_lt_of_le (h.1 h0) hb.size, fun i hi => ⟨(hb.cell (p := ⟨b, o + i, none⟩) (h.1 (by omega))).trans (h.2 i hi).1, (h.2 i hi).2.below hb (Nat.le_refl _)⟩⟩
/-- A list of lists. -/
def IsLL (L : List (List Int)) (v : Value) (W : World) : Prop := ∃ a c b o ad cp, v = .slice a L.length c ∧ L.length ≤ c ∧ (0 < L.length → a = some ⟨b, o, none⟩) ∧ LLr W b o L ad cp
theorem IsLL.below {L : List (List Int)} {v : Value} {W W' : World} (h : IsLL L v W) (hb : Below W.heap.size W W') : IsLL L v W' := by
  obtain ⟨a, c, b, o, ad, cp, e, h1, h2, h3⟩ := h; exact ⟨a, c, b, o, ad, cp, e, h1, h2, h3.below hb⟩
theorem OwnN.keep {T : TypeId} {z B n c : Nat} {cs : List Value} {a : Option Addr} {S : Nat → Prop} {W W' : World} (h : OwnN T z B n cs a c W) (hk : KeepP S W W') (hn : ∀ g, a = some ⟨g, 0, none⟩ → ¬ S g) : OwnN T z B n cs a c W' := by
  rcases h with h | ⟨g, e, h⟩
  · exact .inl h
  · exact .inr ⟨g, e, h.same hk.size fun x hx => hk.block _ _ (hn g e) hx⟩
theorem OwnN.cell {T : TypeId} {z B n c g : Nat} {cs : List Value} {W : World} (h : OwnN T z B n cs (some ⟨g, 0, none⟩) c W) (j : Nat) {u : Value} (hj : cs[j]? = some u) : W.cell? ⟨g, j, none⟩ = some u := by
  rcases h with ⟨e, -⟩ | ⟨g', e, h⟩
  · cases e
  · cases e; exact h.cell j hj
theorem OwnR.store {T T' : TypeId} {z B n g c b : Nat} {cs : List Value} {cs0 : Array Value} {W : World} (h : OwnR T z B n cs g c W) (hb : W.heap[b]? = some (.cells cs0 T' (0, 0))) (hT : (T' != T) = true) : g ≠ b := ownN_ne (.inr ⟨g, rfl, h⟩) hb hT g rfl
theorem inQ_valW {n : Nat} {P : Program} {ops : Array Oper} {Q : Exit → Act → World → Prop} {i d N l0 : Nat} {L : List Nat} {g : Nat → Value} {W W' : World} {o : Oper} {v : Value} (ho : ops[i]? = some o) (hg : o.guard = none) (hnd : ∀ c, o.op ≠ .defer c) (hd : o.dst = some d) (hr : (execOp (fr N g).eval o).run P W = .ok (.value v) W')
    (h : wpOpsIn (Fence.wide.inRound l0) n P ops Q L (fr N (upd g d v)) W') : wpOpsIn (Fence.wide.inRound l0) n P ops Q (i :: L) (fr N g) W := by
  rw [wpOpsIn_cons]
  unfold wpOpIn
  simp only [ho, Region.wanted, hg, if_true]
  refine ⟨fun _ _ => trivial, ?_⟩
  rw [Oper.semAt_eq _ _ _ hnd]
  show o.uponIn _ _ _ _ _ _ ((execOp (fr N g).eval o).run P W)
  rw [hr]
  show wpOpsIn _ _ _ _ _ _ ((fr N g).put o.dst v) W'
  rw [hd, fr_put]; exact h
theorem inQ_skip {n : Nat} {P : Program} {ops : Array Oper} {Q : Exit → Act → World → Prop} {i N l0 : Nat} {L : List Nat} {g : Nat → Value} {W W' : World} {o : Oper} (ho : ops[i]? = some o) (hg : o.guard = none) (hnd : ∀ c, o.op ≠ .defer c) (hd : o.dst = none) (hr : (execOp (fr N g).eval o).run P W = .ok .skip W')
    (h : wpOpsIn (Fence.wide.inRound l0) n P ops Q L (fr N g) W') : wpOpsIn (Fence.wide.inRound l0) n P ops Q (i :: L) (fr N g) W := by
  rw [wpOpsIn_cons]
  unfold wpOpIn
  simp only [ho, Region.wanted, hg, if_true]
  refine ⟨fun _ _ => trivial, ?_⟩
  rw [Oper.semAt_eq _ _ _ hnd]
  show o.uponIn _ _ _ _ _ _ ((execOp (fr N g).eval o).run P W)
  rw [hr]
  show wpOpsIn _ _ _ _ _ _ ((fr N g).put o.dst undef) W'
  rw [hd]; exact h
end Go.Proofs.Ytcgccflcjejlhaa
namespace Go.Proofs.Ytcgccflcjejlhaa
open Go.RowKit
/-- The search, with its best plan so far. -/
def BoxS (p : Tp) (bo oo no co : Nat) (al : Option Addr) (cl : Nat) (L : List (List Int)) (ad : Nat → Option Addr) (cp : Nat → Nat) (bs : Nat) (q : Se) (W : World) : Prop :=
  ∃ a c, W.heap[bs]? = some (.cells #[.int .i64 p.wide, .int .i64 p.tlo, .int .i64 p.thi, .int .i64 p.webs, .slice (some ⟨bo, oo, none⟩) (no) (co), .slice (al) (L.length) (cl), .slice (a) (q.best.length) (c), .int .i64 q.waste, .bool q.found] 168 (0, 0)) ∧ q.best.length ≤ c ∧ RowA W bs a q.best.length (plC L ad cp q.best)
theorem BoxS.below {p : Tp} {bo oo no co : Nat} {al : Option Addr} {cl : Nat} {L : List (List Int)} {ad : Nat → Option Addr} {cp : Nat → Nat} {bs : Nat} {q : Se} {W W' : World} (h : BoxS p bo oo no co al cl L ad cp bs q W) (hb : Below W.heap.size W W') : BoxS p bo oo no co al cl L ad cp bs q W' := by
  obtain ⟨a, c, h1, h2, h3⟩ := h; exact ⟨a, c, blk_below h1 hb, h2, h3.below hb⟩
theorem tail_call {P : Program} {ops : Array Oper} {Q : Exit → Act → World → Prop} {i m N d : Nat} {g : Nat → Value} {W : World} {o : Oper} {fn : FuncId} {args : Array Value} {post : Ending → World → Prop} (ho : ops[i]? = some o) (hg : o.guard = none) (hd : o.dst = some d) (hr : (execOp (fr N g).eval o).run P W = .ok (.enter fn args) W)
    (hc : Calls P fn args W post) (h : ∀ v W', post (.returned v) W' → wpOps P ops Q (List.range' (i + 1) m) (fr N (upd g d v)) W') (h1 : ∀ W', ¬ post .outgrown W') (h2 : ∀ c W', ¬ post (.panicked c) W') : wpOps P ops Q (List.range' i (m + 1)) (fr N g) W := by
  rw [List.range'_succ, wpOps_cons]
  unfold wpOp
  simp only [ho, Region.wanted, hg, if_true]
  refine .inl ?_
  unfold Oper.wp
  rw [hr]
  refine Calls.mono hc fun e W' he => ?_
  cases e with
  | returned v =>
    show wpOps _ _ _ _ ((fr N g).put o.dst v) W'
    rw [hd, fr_put]; exact h v W' he
  | panicked c => exact absurd he (h2 c W')
  | outgrown => exact absurd he (h1 W')
end Go.Proofs.Ytcgccflcjejlhaa
namespace Go.Proofs.Ytcgccflcjejlhaa
open Go.RowKit
theorem rowC_map (xs : List Int) : rowC (fun i => [Value.int .i64 (elT xs i)]) xs.length = xs.map (Value.int .i64) := by
  apply List.ext_getElem?
  intro i
  rcases Nat.lt_or_ge i xs.length with h | h
  · have e := rowC_at (f := fun i => [Value.int .i64 (elT xs i)]) (z := 1) (fun _ => rfl) (j := 0) (by decide) xs.length i h
    rw [show i * 1 + 0 = i by omega] at e
    rw [e, List.getElem?_map, List.getElem?_eq_getElem h]
    show some _ = some _
    unfold elT
    rw [List.getD_eq_getElem?_getD, List.getElem?_eq_getElem h]; rfl
  · rw [List.getElem?_eq_none (by rw [rowC_len (z := 1) (fun _ => rfl)]; omega), List.getElem?_eq_none (by simpa using h)]
theorem da_infoI : (Try.prog.info? 3).map (fun i => (i.zero, i.size, i.bytes)) = some (some (.int .i64 0), 1, 8) := by kernel_rfl
/-- A list of one's own. -/
def NwX (B : Nat) (xs : List Int) (v : Value) (W : World) : Prop := ∃ g c, v = .slice (some ⟨g, 0, none⟩) xs.length c ∧ OwnI B xs g c W
theorem NwX.below {B : Nat} {xs : List Int} {v : Value} {W W' : World} (h : NwX B xs v W) (hb : Below W.heap.size W W') : NwX B xs v W' := by
  obtain ⟨g, c, e, h⟩ := h; exact ⟨g, c, e, h.below hb⟩
theorem colV_ints {w : World} {V b2 : Nat} {xs : List Int} {G : Nat → Prop} {W : World} (hx : 0 < xs.length) (h : ColV w V b2 25 3 1 (fun i => [.int .i64 (elT xs i)]) xs.length G W) {a : Option Addr} {c : Nat} (h3 : W.heap[b2]? = some (.cells #[.slice a xs.length c] 25 (0, 0))) : NwX w.heap.size xs (.slice a xs.length c) W := by
  obtain ⟨h1, h2, a', c', h3', h4, h5, h6⟩ := h
  rw [h3] at h3'
  simp only [Option.some.injEq, Obj.cells.injEq, Array.mk.injEq, List.cons.injEq, Value.slice.injEq, and_true, true_and] at h3'
  obtain ⟨rfl, rfl⟩ := h3'
  rcases h4 with ⟨_, h, _⟩ | ⟨g, rfl, h⟩
  · omega
  · rw [rowC_map] at h; exact ⟨g, c, rfl, h⟩
set_option maxRecDepth 100000 in
set_option maxHeartbeats 16000000 in
theorem appendSeq_vals (a : Option Addr) (n c : Nat) (xs : List Int) (bw : Nat) (w : World) (hX : Ii w a n c xs) (hn : n ≤ 1000) (hx0 : 0 < xs.length) (hbw : w.heap[bw]? = some (.cells #[.slice a n c] 25 (0, 0))) :
  Calls Try.prog 135 #[.slice (none) (0) (0), .func (.func 99) #[] #[.pointer (some ⟨bw, 0, none⟩)]] w (fun e w' => ∃ v, e = .returned v ∧ NwX w.heap.size xs v w' ∧ Below w.heap.size w w') := by
 obtain rfl : n = xs.length := hX.1
 refine calls_frM (n := 9) Try.func135 Try.ntmps135 rfl rfl fun g hg => ?_
 have k0 : g 0 = .slice (none) (0) (0) := hg 0
 have k1 : g 1 = .func (.func 99) #[] #[.pointer (some ⟨bw, 0, none⟩)] := hg 1
 clear hg
 have fB0 : Below w.heap.size w w := Below.refl _ _
 have lt_bw := lt_of_blk hbw
 refine wp_seq_k fun K1 hK1 => ?_
 refine region_dk 2 [(2, 0), (4, 1)] [[], []] (rel [bx 0 #[.slice (none) (0) (0)] 25,
   is (.slice (none) (0) (0))])
  ⟨bx_k, is_k, trivial⟩
  ⟨fun f s W m q u y z d => opb rfl rfl (by simp [go_sem, d.e 0 k0]),
  fun f s W m q u y z d => opv rfl rfl (by simp [go_sem]) rfl, trivial⟩ ?_
 intro f1 s1 W1 hB1 g1 hg1
 have fB1 := hB1.f fB0
 have z1 := hB1.below.size
 have b1_0 := hB1.b hbw
 obtain ⟨r1_0, br1_0⟩ := hB1.is 0
 have lr1_0 := hB1.lr 0 br1_0
 refine hK1 _ _ ?_
 have k1_1 := kt hg1 1 k1
 have k1_2 := kt hg1 2 r1_0
 have k1_4 := kt hg1 4 (hB1.is 1)
 refine wp_seq_k fun K2 hK2 => ?_
 refine wp_seq_k fun K3 hK3 => ?_
 refine region_dk 1 [(6, 0)] [[]] (rel [is (.func (.func 99) #[] #[.pointer (some ⟨bw, 0, none⟩)])])
  ⟨is_k, trivial⟩
  ⟨fun f s W m q u y z d => opv rfl rfl (by simp [go_sem, d.e 1 k1_1]) rfl, trivial⟩ ?_
 intro f2 s2 W2 hB2 g2 hg2
 have fB2 := hB2.f fB1
 have z2 := hB2.below.size
 have b2_0 := hB2.b b1_0
 have b2_1 := hB2.b br1_0
 refine hK3 _ _ ?_
 have k2_2 := kt hg2 2 k1_2
 have k2_4 := kt hg2 4 k1_4
 have k2_6 := kt hg2 6 (hB2.is 0)
 refine wp_block ?_
 have ltx0 := lt_of_blk b2_0
 obtain ⟨b2, hb2⟩ : ∃ b, (s1 0) = b := ⟨_, rfl⟩
 have hx2 : W2.heap[b2]? = some (.cells #[.slice none 0 0] 25 (0, 0)) := hb2 ▸ b2_1
 have k2' : g2 2 = .pointer (some ⟨b2, 0, none⟩) := hb2 ▸ k2_2
 have lt_b2 := lt_of_blk hx2; have hb2w : w.heap.size ≤ b2 := by rw [← hb2]; omega
 obtain ⟨V, hV⟩ : ∃ V, W2.heap.size = V := ⟨_, rfl⟩
 obtain ⟨AA, hA⟩ : ∃ A : Nat → (Nat → Prop) → Act → World → Prop, A = fun j G_ a' W_ => ∃ g' : Nat → Value, a' = fr 13 g' ∧ g' 2 = .pointer (some ⟨b2, 0, none⟩) ∧ g' 5 = .int .i64 (elT xs j) := ⟨_, rfl⟩
 refine (wpIn_wide (n := 10)).1 (range_gx (n := 10) (gf := 99) (rcv := #[]) (lb := #[.pointer (some ⟨bw, 0, none⟩)]) ((fr_eval rfl).trans k2_6) (enters_of Try.func99 (by kernel_rfl) rfl) xs.length (fun i _ v _ => v = #[.int .i64 ((elT xs i))]) (fun i G v W h => by rw [h]; rfl) (ColV w V b2 25 3 1 (fun i => [.int .i64 (elT xs i)])) (fun b => False ∧ b = 0) (fun b h => absurd h.1 id) (hV ▸ colV_stab (by omega) (by omega) (fun _ h => absurd h.1 id)) (fun b => b = b2) (fun b h => by omega) ?hit ?h0 AA ?hAp ?hassign ?hbody ?hdone)
 case hit =>
  intro l' W1 J' hl hl1 hb1 hJ's hJ'I hY' hJ0'
  have hz1 := hb1.size
  have hJG' : ∀ i G W, J' i G W → ∀ b, G b → w.heap.size ≤ b ∧ b < W.heap.size := fun i G W h => colV_ge hb2w (hJ'I i G W h)
  have fB1' := fB2.trans (hb1.mono fB2.size)
  refine values_it a xs.length c xs hX hn bw l' (fun b => b = b2) J' W1 fB1' (blk_below b2_0 hb1) (fun i G W W' h hk => hJ's i G W W' h (hk.more fun b hb => hb.elim (fun h => absurd h id) .inr)) hJG' (fun i G W hi hj u => hY' i G W _ hi hj u rfl) hJ0'
 case h0 => exact ⟨fB2, Nat.le_of_eq hV.symm, none, 0, hx2, ownN_nil, (fun g e => nomatch e), (fun b => by simp)⟩
 case hAp =>
  subst hA
  rintro j G_ a' X r o hl ⟨g', h1, h2, h3⟩
  exact ⟨g', h1, h2, h3⟩
 case hassign =>
  rintro l' j G_ X v K hj hIX hsz rfl hK
  obtain ⟨Sv, hSv⟩ : ∃ v : Value, .int .i64 (elT xs j) = v := ⟨_, rfl⟩
  rw [hSv]
  have e : ({ tmps := ((#[7] : Array Tmp).zip #[Sv]).foldl (fun t (p, v) => t.setIfInBounds p v) (fr 13 g2).tmps, defers := [] } : Act) = fr 13 (upd g2 7 Sv) := by
   rw [foldl_one]; exact fr_set
  rw [e]
  have u7 : upd g2 7 Sv 7 = Sv := upd_same _ _ _
  refine wpIn_region ?_
  show wpOpsIn _ _ _ _ _ [0] _ _
  refine inQ_value (o := _) rfl rfl (fun _ h => nomatch h) rfl (v := Sv) (by simp [go_sem, frv 13 u7]) ?_
  refine hK _ _ (Below.refl _ _) ?_
  subst hA
  exact ⟨_, rfl, (upd_other _ _ (by decide)).trans ((upd_other _ _ (by decide)).trans k2'), (upd_same _ _ _).trans hSv.symm⟩
 case hbody =>
  intro l' j G_ a' X hj hIX hAX
  subst hA
  obtain ⟨g', rfl, q2, hAX⟩ := hAX
  refine wpIn_block (wpIn_region ?_)
  show wpOpsIn (Fence.wide.inRound l') _ _ _ _ [0, 1, 2, 3, 4] _ _
  obtain ⟨Sv, hSv⟩ : ∃ v : Value, .int .i64 (elT xs j) = v := ⟨_, rfl⟩
  rw [hSv] at hAX
  obtain ⟨X1, hX1⟩ : ∃ Y, X.alloc (.cells #[Sv] 3 (0, 0)) = Y := ⟨_, rfl⟩
  have hb1 : Below X.heap.size X X1 := hX1 ▸ (Below.refl _ X).alloc (Nat.le_refl _) _
  have hn1 : X1.heap[X.heap.size]? = some (.cells #[Sv] 3 (0, 0)) := hX1 ▸ World.alloc_heap_new X _
  obtain ⟨a, c, g2, c2, X2, hb2', ra, h3x, hcv, hkp, hgr⟩ := colV_step hIX (by kernel_rfl) da_infoI rfl rfl rfl (by rfl) (by omega) ⟨hb2w, by omega⟩ hb1 (by rw [hSv]; exact hn1)
  have hb2x : X.heap[b2]? = some (.cells #[.slice a j c] 25 (0, 0)) := by have := hb1.block b2 (by have := hIX.2.1; omega); rw [← this]; exact hb2'
  have u8 : upd g' 8 (.slice a j c) 5 = Sv := (upd_other _ _ (by decide)).trans hAX
  have u9 : upd (upd g' 8 (.slice a j c)) 9 Sv 9 = Sv := upd_same _ _ _
  refine inQ_value (o := _) rfl rfl (fun _ h => nomatch h) rfl (v := .slice a j c) (by simp [go_sem, frv 13 q2, cl hb2x 0]) ?_
  refine inQ_value (o := _) rfl rfl (fun _ h => nomatch h) rfl (v := Sv) (by simp [go_sem, frv 13 u8]) ?_
  refine inQ_valW (o := _) rfl rfl (fun _ h => nomatch h) rfl (v := .slice (some ⟨X.heap.size, 0, none⟩) 1 1) (W' := X.alloc (.cells #[Sv] 3 (0, 0))) (by subst hSv; simp [go_sem, frv 13 u9]) ?_
  rw [hX1]
  have v8 : upd (upd (upd g' 8 (.slice a j c)) 9 Sv) 10 (.slice (some ⟨X.heap.size, 0, none⟩) 1 1) 8 = .slice a j c := (upd_other _ _ (by decide)).trans ((upd_other _ _ (by decide)).trans (upd_same _ _ _))
  have v10 : upd (upd (upd g' 8 (.slice a j c)) 9 Sv) 10 (.slice (some ⟨X.heap.size, 0, none⟩) 1 1) 10 = .slice (some ⟨X.heap.size, 0, none⟩) 1 1 := upd_same _ _ _
  refine inQ_valW (o := _) rfl rfl (fun _ h => nomatch h) rfl (run_appendOp (fr_ev v8) (fr_ev v10) ra) ?_
  have v2 : upd (upd (upd (upd g' 8 (.slice a j c)) 9 Sv) 10 (.slice (some ⟨X.heap.size, 0, none⟩) 1 1)) 11 (.slice (some ⟨g2, 0, none⟩) (j + 1) c2) 2 = .pointer (some ⟨b2, 0, none⟩) := (upd_other _ _ (by decide)).trans ((upd_other _ _ (by decide)).trans ((upd_other _ _ (by decide)).trans ((upd_other _ _ (by decide)).trans q2)))
  have v11 : upd (upd (upd (upd g' 8 (.slice a j c)) 9 Sv) 10 (.slice (some ⟨X.heap.size, 0, none⟩) 1 1)) 11 (.slice (some ⟨g2, 0, none⟩) (j + 1) c2) 11 = .slice (some ⟨g2, 0, none⟩) (j + 1) c2 := upd_same _ _ _
  refine inQ_skip (o := _) rfl rfl (fun _ h => nomatch h) rfl (run_seg rfl (fr_ev v2) (fr_ev v11) h3x rfl rfl rfl rfl) ?_
  exact ⟨rfl, _, hcv, hkp, hgr⟩
 case hdone =>
  intro D G' Z hD hnD hIZ hdZ
  have hCZ := hIZ
  obtain ⟨h1, h2, a, c, h3, h4, h5, h6⟩ := hIZ
  have eD : ({ fr 13 g2 with defers := { target := .collected D, args := #[] } :: (fr 13 g2).defers } : Act) = frD [mkD D] 13 g2 := rfl
  rw [eD]
  have hDb : D ≠ b2 := fun e => by rw [e, h3] at hdZ; cases hdZ
  refine inBlock_normal ?_
  refine hK2 _ _ ?_
  refine wp_seq_k fun K4 hK4 => ?_
  refine region_doD 2 [(12, 0), (4, 1)] [[], [0]] (rel [is (.slice (a) (xs.length) (c)),
   is (.slice (a) (xs.length) (c))]) (by kernel_rfl) (by kernel_rfl) (by kernel_rfl) (by kernel_rfl)
   ⟨is_k, is_k, trivial⟩
   ⟨fun f s W m q u y z d => opv rfl rfl (by simp [go_sem, d.e 2 k2', cb h3 m 0]) rfl,
  fun f s W m q u y z d => opv rfl rfl (by simp [go_sem, d.e 12 (q 0 rfl)]) rfl, trivial⟩ ?_
  intro f3 s3 W3 hB3
  have fB3 := hB3.f h1
  have z3 := hB3.below.size
  have b3_0 := hB3.b h3
  have q1' := (hB3.b hdZ)
  have q2' := (below_trans (Below.refl Z.heap.size Z) hB3.below)
  refine hK4 _ _ ?_
  generalize hg3 : ov [(12, 0), (4, 1)] f3 g2 = g3
  have k3_2 := kt hg3 2 k2'
  have k3_4 := kt hg3 4 (hB3.is 1)
  refine wp_ret ?_
  refine leave_mark (v := .slice (a) (xs.length) (c)) (.inr rfl) rfl rfl q1' (fun W' => by simp [results, Try.results135, go_sem, frD_evv (N := 13) (ds := [mkD D]) k3_4]) ?_
  have hput := Below.trans fB3 (below_put (W := W3) (l := D) (o := .deferred none) (by omega))
  have hkF : KeepP (fun b => False ∧ b = 0 ∨ (V ≤ b ∧ ¬ G' b)) Z (W3.putObj D (.deferred none)) := (KeepP.of_below q2').trans ⟨rfl, rfl, rfl, by rw [putObj_size]; exact Nat.le_refl _, fun k x hk hx => (World.putObj_heap_other (fun e => hk (.inr (by subst e; exact ⟨by omega, hnD⟩)))).trans hx⟩
  have hCe := colV_stab (by omega) (by omega) (fun _ h => absurd h.1 id) _ _ _ _ hCZ hkF
  exact ⟨_, rfl, colV_ints hx0 hCe (hkF.block _ _ (fun e => by exact e.elim (fun h => h.1) (fun h => by omega)) h3), hput⟩
/-- The iterator over a list's numbers. -/
def VlV (B : Nat) (a : Option Addr) (n c : Nat) (v : Value) (W : World) : Prop := ∃ bw, v = .func (.func 99) #[] #[.pointer (some ⟨bw, 0, none⟩)] ∧ W.heap[bw]? = some (.cells #[.slice a n c] 25 (0, 0)) ∧ B ≤ bw
theorem VlV.below {B : Nat} {a : Option Addr} {n c : Nat} {v : Value} {W W' : World} (h : VlV B a n c v W) (hb : Below W.heap.size W W') : VlV B a n c v W' := by
  obtain ⟨bw, e, h1, h2⟩ := h; exact ⟨bw, e, blk_below h1 hb, h2⟩
set_option maxRecDepth 100000 in
set_option maxHeartbeats 400000 in
theorem values_fn (a : Option Addr) (n c : Nat) (w : World) :
  Calls Try.prog 48 #[.slice (a) (n) (c)] w (fun e w' => ∃ v, e = .returned v ∧ VlV w.heap.size a n c v w' ∧ Below w.heap.size w w') := by
 refine calls_fr Try.func48 Try.ntmps48 rfl rfl fun g hg => ?_
 have k0 : g 0 = .slice (a) (n) (c) := hg 0
 clear hg
 have fB0 : Below w.heap.size w w := Below.refl _ _
 refine wp_seq_k fun K1 hK1 => ?_
 refine region_dk 2 [(1, 0), (2, 1)] [[], []] (rel [bx 0 #[.slice (a) (n) (c)] 25,
   is (.nilFunc)])
  ⟨bx_k, is_k, trivial⟩
  ⟨fun f s W h i j k l d => opb rfl rfl (by simp [go_sem, d.e 0 k0]),
  fun f s W h i j k l d => opv rfl rfl (by simp [go_sem]) rfl, trivial⟩ ?_
 intro f1 s1 W1 hB1 g1 hg1
 have fB1 := hB1.f fB0
 have z1 := hB1.below.size
 obtain ⟨r1_0, br1_0⟩ := hB1.is 0
 have lr1_0 := hB1.lr 0 br1_0
 refine hK1 _ _ ?_
 have k1_1 := kt hg1 1 r1_0
 have k1_2 := kt hg1 2 (hB1.is 1)
 refine wp_seq_k fun K2 hK2 => ?_
 refine region_dk 2 [(3, 0), (2, 1)] [[], [0]] (rel [is (.func (.func 99) #[] #[.pointer (some ⟨(s1 0), 0, none⟩)]),
   is (.func (.func 99) #[] #[.pointer (some ⟨(s1 0), 0, none⟩)])])
  ⟨is_k, is_k, trivial⟩
  ⟨fun f s W h i j k l d => opv rfl rfl (by simp [go_sem, d.e 1 k1_1]) rfl,
  fun f s W h i j k l d => opv rfl rfl (by simp [go_sem, d.e 3 (i 0 rfl)]) rfl, trivial⟩ ?_
 intro f2 s2 W2 hB2 g2 hg2
 have fB2 := hB2.f fB1
 have z2 := hB2.below.size
 have b2_0 := hB2.b br1_0
 refine hK2 _ _ ?_
 have k2_2 := kt hg2 2 (hB2.is 1)
 refine wp_ret ?_
 refine leave_one (N := 4) (v := .func (.func 99) #[] #[.pointer (some ⟨(s1 0), 0, none⟩)]) (.inr rfl) Try.results48 rfl k2_2 ?_
 exact ⟨_, rfl, ⟨_, rfl, b2_0, by omega⟩, fB2⟩
theorem OwnI.lower {B B' : Nat} {xs : List Int} {g c : Nat} {W : World} (h : OwnI B xs g c W) (hb : B' ≤ B) : OwnI B' xs g c W := by
  obtain ⟨h1, h2, h3, h4⟩ := h
  refine ⟨Nat.le_trans hb h1, h2, h3, ?_⟩
  rcases h4 with h4 | ⟨g', cap, cur, e, h5, h6, h7⟩
  · exact .inl h4
  · exact .inr ⟨g', cap, cur, e, Nat.le_trans hb h5, h6, h7⟩
theorem OwnI.unfrozen {B : Nat} {xs : List Int} {g c : Nat} {W : World} (h : OwnI B xs g c W) : ∀ i, W.frozen? ⟨g, i, none⟩ = false := fun i => h.2.2.frozenAt i
set_option maxRecDepth 100000 in
set_option maxHeartbeats 400000 in
theorem collect_vals (a : Option Addr) (n c : Nat) (xs : List Int) (bw : Nat) (w : World) (hX : Ii w a n c xs) (hn : n ≤ 1000) (hx0 : 0 < xs.length) (hbw : w.heap[bw]? = some (.cells #[.slice a n c] 25 (0, 0))) :
  Calls Try.prog 97 #[.func (.func 99) #[] #[.pointer (some ⟨bw, 0, none⟩)]] w (fun e w' => ∃ v, e = .returned v ∧ NwX w.heap.size xs v w' ∧ Below w.heap.size w w') := by
 refine calls_fr Try.func97 Try.ntmps97 rfl rfl fun g hg => ?_
 have k0 : g 0 = .func (.func 99) #[] #[.pointer (some ⟨bw, 0, none⟩)] := hg 0
 clear hg
 have fB0 : Below w.heap.size w w := Below.refl _ _
 have lt_bw := lt_of_blk hbw
 refine wp_seq_k fun K1 hK1 => ?_
 refine region_dk 1 [(2, 0)] [[]] (rel [is (.slice (none) (0) (0))])
  ⟨is_k, trivial⟩
  ⟨fun f s W i j k l m d => opv rfl rfl (by simp [go_sem]) rfl, trivial⟩ ?_
 intro f1 s1 W1 hB1 g1 hg1
 have fB1 := hB1.f fB0
 have z1 := hB1.below.size
 have b1_0 := hB1.b hbw
 refine hK1 _ _ ?_
 have k1_0 := kt hg1 0 k0
 have k1_2 := kt hg1 2 (hB1.is 0)
 refine wp_seq_k fun K2 hK2 => ?_
 refine region_dk 3 [(3, 0), (4, 1), (2, 2)] [[], [0], [0, 1]] (rel [is (.func (.func 99) #[] #[.pointer (some ⟨bw, 0, none⟩)]),
   ab fun v W => NwX w.heap.size (xs) v W,
   ab fun v W => NwX w.heap.size (xs) v W])
  ⟨is_k, ab_k fun v W W' hb h => (NwX.below h hb), ab_k fun v W W' hb h => (NwX.below h hb), trivial⟩
  ⟨fun f s W i j k l m d => opv rfl rfl (by simp [go_sem, d.e 0 k1_0]) rfl,
  fun f s W i j k l m d => by have o := below_trans fB1 i; exact opDo_call rfl rfl (by simp [go_sem, d.e 3 (j 0 rfl)]) (appendSeq_vals a n c xs bw W (hX.below o (Nat.le_refl _)) hn hx0 (blk_below b1_0 i)) ((fun e W' h => by obtain ⟨v, e1, ⟨g_, c_, e2, h1⟩, h2⟩ := h; exact ⟨_, e1, h2, ⟨g_, c_, e2, h1.lower (by have := i.size; omega)⟩⟩)),
  fun f s W i j k l m d => opv (v := (f 1)) rfl rfl (by simp [go_sem, (d.at' 4 rfl : m.tmps[4]?.getD undef = f 1)] <;> rfl) (j 1 rfl), trivial⟩ ?_
 intro f2 s2 W2 hB2 g2 hg2
 have fB2 := hB2.f fB1
 have z2 := hB2.below.size
 have b2_0 := hB2.b b1_0
 obtain ⟨g6', c7', r2_2, q8'⟩ := hB2.is 2
 refine hK2 _ _ ?_
 have k2_2 := kt hg2 2 r2_2
 refine wp_ret ?_
 refine leave_one (N := 5) (v := .slice (some ⟨g6', 0, none⟩) (xs.length) (c7')) (.inr rfl) Try.results97 rfl k2_2 ?_
 exact ⟨_, rfl, ⟨_, _, rfl, q8'⟩, fB2⟩
set_option maxRecDepth 100000 in
set_option maxHeartbeats 400000 in
theorem sorted_vals (a : Option Addr) (n c : Nat) (xs : List Int) (bw : Nat) (w : World) (hX : Ii w a n c xs) (hn : n ≤ 1000) (hx0 : 0 < xs.length) (hbw : w.heap[bw]? = some (.cells #[.slice a n c] 25 (0, 0))) :
  Calls Try.prog 47 #[.func (.func 99) #[] #[.pointer (some ⟨bw, 0, none⟩)]] w (fun e w' => ∃ g c', e = .returned (.slice (some ⟨g, 0, none⟩) xs.length c') ∧ Ii w' (some ⟨g, 0, none⟩) xs.length c' (xs.mergeSort fun x y => decide (x ≤ y)) ∧ g < w'.heap.size ∧ Below w.heap.size w w') := by
 have hl_ := hX.1
 refine calls_fr Try.func47 Try.ntmps47 rfl rfl fun g hg => ?_
 have k0 : g 0 = .func (.func 99) #[] #[.pointer (some ⟨bw, 0, none⟩)] := hg 0
 clear hg
 have fB0 : Below w.heap.size w w := Below.refl _ _
 have lt_bw := lt_of_blk hbw
 refine wp_seq_k fun K1 hK1 => ?_
 refine region_dk 1 [(2, 0)] [[]] (rel [is (.slice (none) (0) (0))])
  ⟨is_k, trivial⟩
  ⟨fun f s W j k l m p i => opv rfl rfl (by simp [go_sem]) rfl, trivial⟩ ?_
 intro f1 s1 W1 hB1 g1 hg1
 have fB1 := hB1.f fB0
 have z1 := hB1.below.size
 have b1_0 := hB1.b hbw
 refine hK1 _ _ ?_
 have k1_0 := kt hg1 0 k0
 have k1_2 := kt hg1 2 (hB1.is 0)
 refine wp_seq_k fun K2 hK2 => ?_
 refine region_dk 3 [(4, 0), (5, 1), (3, 2)] [[], [0], [0, 1]] (rel [is (.func (.func 99) #[] #[.pointer (some ⟨bw, 0, none⟩)]),
   ab fun v W => NwX w.heap.size (xs) v W,
   ab fun v W => NwX w.heap.size (xs) v W])
  ⟨is_k, ab_k fun v W W' hb h => (NwX.below h hb), ab_k fun v W W' hb h => (NwX.below h hb), trivial⟩
  ⟨fun f s W j k l m p i => opv rfl rfl (by simp [go_sem, i.e 0 k1_0]) rfl,
  fun f s W j k l m p i => by have q := below_trans fB1 j; exact opDo_call rfl rfl (by simp [go_sem, i.e 4 (k 0 rfl)]) (collect_vals a n c xs bw W (hX.below q (Nat.le_refl _)) hn hx0 (blk_below b1_0 j)) ((fun e W' h => by obtain ⟨v, e1, ⟨g_, c_, e2, h1⟩, h2⟩ := h; exact ⟨_, e1, h2, ⟨g_, c_, e2, h1.lower (by have := j.size; omega)⟩⟩)),
  fun f s W j k l m p i => opv (v := (f 1)) rfl rfl (by simp [go_sem, (i.at' 5 rfl : p.tmps[5]?.getD undef = f 1)] <;> rfl) (k 1 rfl), trivial⟩ ?_
 intro f2 s2 W2 hB2 g2 hg2
 have fB2 := hB2.f fB1
 have z2 := hB2.below.size
 have b2_0 := hB2.b b1_0
 obtain ⟨g12', c13', r2_2, q14'⟩ := hB2.is 2
 refine hK2 _ _ ?_
 have k2_2 := kt hg2 2 k1_2
 have k2_3 := kt hg2 3 r2_2
 refine wp_seq_k fun K3 hK3 => ?_
 refine region_dk 1 [(6, 0), (7, 1)] [[], [0]] (rel [is (.slice (some ⟨g12', 0, none⟩) (xs.length) (c13'))])
  ⟨is_k, trivial⟩
  ⟨fun f s W j k l m p i => opv rfl rfl (by simp [go_sem, i.e 3 k2_3]) rfl, trivial⟩ ?_
 intro f3 s3 W3 hB3 g3 hg3
 have fB3 := hB3.f fB2
 have z3 := hB3.below.size
 have b3_0 := hB3.b b2_0
 have q15' := (OwnI.below q14' hB3.below)
 have k3_2 := kt hg3 2 k2_2
 have k3_3 := kt hg3 3 k2_3
 have k3_6 := kt hg3 6 (hB3.is 0)
 refine tail_call (o := _) (d := 7) rfl rfl rfl (by simp [go_sem, frv 9 k3_6]) (sort_own g12' c13' xs W3 q15'.ii (OwnI.unfrozen q15') q15'.2.1 (by omega)) ?_ (fun _ h => nomatch h.1) (fun _ _ h => nomatch h.1)
 rintro v_ W4 ⟨rv4, si4, sx4⟩
 obtain rfl := Ending.returned.inj rv4
 have fB4 := sx4.below fB3 q15'.1 (Below.size fB3)
 have sl4 := q15'.2.1
 have sz4 := sx4.size
 have sg4 : g12' < W4.heap.size := by omega
 generalize hg4 : upd g3 7 (.tuple #[]) = g4
 have k4_2 := ku hg4 2 k3_2
 have k4_3 := ku hg4 3 k3_3
 have k4_7 := kt hg4 7 (upd_same _ _ _)
 refine wpOps_end ?_
 refine hK3 _ _ ?_
 refine wp_seq_k fun K4 hK4 => ?_
 refine region_dk 2 [(8, 0), (2, 1)] [[], [0]] (rel [is (.slice (some ⟨g12', 0, none⟩) (xs.length) (c13')),
   is (.slice (some ⟨g12', 0, none⟩) (xs.length) (c13'))])
  ⟨is_k, is_k, trivial⟩
  ⟨fun f s W j k l m p i => opv rfl rfl (by simp [go_sem, i.e 3 k4_3]) rfl,
  fun f s W j k l m p i => opv rfl rfl (by simp [go_sem, i.e 8 (k 0 rfl)]) rfl, trivial⟩ ?_
 intro f5 s5 W5 hB5 g5 hg5
 have fB5 := hB5.f fB4
 have z5 := hB5.below.size
 have q16' := (si4.bw hB5)
 have q17' := (hB5.lt sg4)
 refine hK4 _ _ ?_
 have k5_2 := kt hg5 2 (hB5.is 1)
 refine wp_ret ?_
 refine leave_one (N := 9) (v := .slice (some ⟨g12', 0, none⟩) (xs.length) (c13')) (.inr rfl) Try.results47 rfl k5_2 ?_
 exact ⟨_, _, rfl, q16', q17', fB5⟩
end Go.Proofs.Ytcgccflcjejlhaa
