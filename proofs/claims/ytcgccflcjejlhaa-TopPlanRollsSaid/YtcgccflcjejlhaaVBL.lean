/- Part of the proof: what the claim leans on. -/
import Derived.Laws.CopyRow
import Derived.Test.YtcgccflcjejlhaaVBB
import Derived.Test.YtcgccflcjejlhaaVBK
import Derived.Test.YtcgccflcjejlhaaVAJ
set_option maxHeartbeats 400000
set_option maxRecDepth 100000
set_option linter.unusedSimpArgs false
set_option linter.unusedVariables false
namespace Go.Proofs.Ytcgccflcjejlhaa
open Go.RowKit
theorem run_copyOp {P : Program} {a : Act} {W W' : World} {dst : Option Nat} {s x : Operand} {t t' ty : TypeId} {pos : String} {af : Array Edge} {gd : Option (Nat × Bool)} {vs vx v : Value} (hs : a.eval s = vs) (hx : a.eval x = vx)
    (hr : (Builtin.copy_ #[t, t'] ty #[vs, vx]).run P W = .ok v W') :
    (execOp a.eval { dst := dst, op := .call { callee := .builtin .copy, args := #[s, x], argTypes := #[t, t'] }, type := ty, pos := pos, after := af, guard := gd }).run P W = .ok (.value v) W' := by
  simp only [execOp, resolve, invoke, builtin, Sem.run_bind, Sem.run_pure, Result.andThen_ok, List.map_toArray, List.map_cons, List.map_nil, hs, hx, hr]
theorem copy_row {W W' : World} (sl ty T : TypeId) {g o h q dl dc sl' sc' : Nat} {cur cs' : Array Value} {t : TypeId} (cs : List Value) (hu : Try.prog.underlying sl = some (.slice T)) (hs : (Try.prog.info? T).map (·.size) = some 1) (hg : W.heap[g]? = some (.cells cur t (0, 0))) (hn : cs.length = Nat.min sl' dl)
    (hsrc : ∀ j v, cs[j]? = some v → W.cell? ⟨h, q + j, none⟩ = some v) (hfit : decide (o + cs.length ≤ cur.size) = true) (h1 : cs.all (·.oneCell') = true) (hcs : (cur.toList.take o ++ cs ++ cur.toList.drop (o + cs.length)).toArray = cs') (hW : W' = W.setRow g cs') :
    (Builtin.copy_ #[sl, sl] ty #[.slice (some ⟨g, o, none⟩) dl dc, .slice (some ⟨h, q, none⟩) sl' sc']).run Try.prog W = .ok (goInt cs.length) W' := by
  subst hcs; subst hW
  exact run_copy_row (P := Try.prog) W sl sl ty T g o dl dc ⟨h, q, none⟩ sl' sc' cur t cs hu hs hg hn (fun j v hj => by rw [add_plain']; exact hsrc j v hj) (of_decide_eq_true hfit) (fun v hv => List.all_eq_true.1 h1 v hv)
section
variable {P : Program} {ops : Array Oper} {Q : Exit → Act → World → Prop} {l : List Tg}
theorem nowV_k {ds : List (List Nat)} {i b : Nat} {t : TypeId} {o f : Array Value} {u : Value} (hx : (⟨b, t, o, f⟩ : Tg) ∈ l) : KeepsL (LeX (tgS l) (tgP l)) ds i (fun v _ W => v = u ∧ W.heap[b]? = some (.cells f t (0, 0))) :=
  ⟨fun _ _ _ _ hb h => ⟨h.1, hb.stay _ (tgP_was hx).2 h.2⟩, fun _ _ _ _ _ h => h⟩
theorem copO_do {i b off q dl dc sl' sc' d : Nat} {t sl T ty : TypeId} {o f : Array Value} {u : Value} (hd : tgD l) (hx : (⟨b, t, o, f⟩ : Tg) ∈ l) {a : Act} {W : World} {x y : Operand} {pos : String} {af : Array Edge} (hw : Tg.was ⟨b, t, o, f⟩ W)
    (ho : ops[i]? = some { dst := some d, op := .call { callee := .builtin .copy, args := #[x, y], argTypes := #[sl, sl] }, type := ty, pos := pos, after := af, guard := none }) (hp : a.eval x = .slice (some ⟨b, off, none⟩) dl dc) (hy : a.eval y = .slice (some ⟨b, q, none⟩) sl' sc') (cs : List Value) (hu : P.underlying sl = some (.slice T)) (hs : (P.info? T).map (·.size) = some 1) (hn : cs.length = Nat.min sl' dl) (hnn : Value.int .i64 cs.length = u) (h1 : cs.all (·.oneCell') = true)
    (k1 : ∀ j v, cs[j]? = some v → o[q + j]? = some v) (k2 : ∀ j v, cs[j]? = some v → f[q + j]? = some v) (hl1 : decide (off + cs.length ≤ o.size) = true) (hl2 : decide (off + cs.length ≤ f.size) = true) (e1 : (o.toList.take off ++ cs ++ o.toList.drop (off + cs.length)).toArray = f) (e2 : (f.toList.take off ++ cs ++ f.toList.drop (off + cs.length)).toArray = f) :
    OpDoL (LeX (tgS l) (tgP l)) P ops Q i a W (fun v W' => v = u ∧ W'.heap[b]? = some (.cells f t (0, 0))) := by
  have key : ∀ cu, W.heap[b]? = some (.cells cu t (0, 0)) → (∀ j v, cs[j]? = some v → cu[q + j]? = some v) → decide (off + cs.length ≤ cu.size) = true → (cu.toList.take off ++ cs ++ cu.toList.drop (off + cs.length)).toArray = f → OpDoL (LeX (tgS l) (tgP l)) P ops Q i a W (fun v W' => v = u ∧ W'.heap[b]? = some (.cells f t (0, 0))) := by
    intro cu hb hk hl e
    have hr := run_copy_row (P := P) W sl sl ty T b off dl dc ⟨b, q, none⟩ sl' sc' cu t cs hu hs hb hn (fun j v hj => by rw [add_plain']; exact (Joins.cell_of_block hb (q + j)).trans (hk j v hj)) (of_decide_eq_true hl) (fun v hv => List.all_eq_true.1 h1 v hv)
    rw [e] at hr
    have hnew := setRow_heap W b cu f t (0, 0) hb
    have hot : ∀ k z, k ≠ b → W.heap[k]? = some z → (W.setRow b f).heap[k]? = some z := fun k z hk hz => by rw [setRow_other W b k f hk]; exact hz
    refine opDoL_value ho rfl (run_copyOp hp hy hr) ⟨rfl, rfl, rfl, by rw [setRow_size]; exact Nat.le_refl _, fun k hk hn => setRow_other W b k f fun e => hn (e ▸ tgS_of hx), fun p hp hpa => ?_⟩ ⟨hnn, hnew⟩
    obtain ⟨z, hz, hz'⟩ := tgP_mem hp
    by_cases e : z.b = b
    · have hzx := tgD_eq hd hz hx e
      subst hzx
      rcases hz' with rfl | rfl
      · exact .inr hnew
      · exact hnew
    · rcases hz' with rfl | rfl
      · rcases hpa with h | h
        · exact .inl (hot _ _ e h)
        · exact .inr (hot _ _ e h)
      · exact hot _ _ e hpa
  rcases hw with h | h
  · exact key o h k1 hl1 e1
  · exact key f h k2 hl2 e2
end
theorem mul64_13 (w : World) :
  Calls Try.prog 158 #[.int .u64 1, .int .u64 3] w (fun e w' => e = .returned (.tuple #[.int .u64 0, .int .u64 3]) ∧ Below w.heap.size w w') := by
 refine calls_fr Try.func158 Try.ntmps158 rfl rfl fun g hg => ?_
 have k0 : g 0 = .int .u64 1 := hg 0
 have k1 : g 1 = .int .u64 3 := hg 1
 clear hg
 have fB0 : Below w.heap.size w w := Below.refl _ _
 refine rw_ 2 [(4, 0), (5, 1)] [[], []] (rel [is (.int .u64 0), is (.int .u64 0)])
  ⟨fun f s W b c d h i a => opz,
  fun f s W b c d h i a => opz, trivial⟩ ?_
 intro f1 s1 W1 hB1 g1 hg1 z1
 have k1_0 := kt hg1 0 k0
 refine rw_ 3 [(14, 0), (15, 1), (6, 2)] [[], [0], [1]] (rel [is (.int .u64 1), is (.int .u64 1), is (.int .u64 1)])
  ⟨fun f s W b c d h i a => opm (a.v 0 k1_0),
  fun f s W b c d h i a => opv (v := .int .u64 1) rfl rfl (binop_lit rfl (a.v 14 (c 0 rfl)) rfl (by kernel_rfl)) rfl,
  fun f s W b c d h i a => opm (a.v 15 (c 1 rfl)), trivial⟩ ?_
 intro f2 s2 W2 hB2 g2 hg2 z2
 have k2_0 := kt hg2 0 k1_0
 refine rw_ 3 [(16, 0), (17, 1), (7, 2)] [[], [0], [1]] (rel [is (.int .u64 1), is (.int .u64 0), is (.int .u64 0)])
  ⟨fun f s W b c d h i a => opm (a.v 0 k2_0),
  fun f s W b c d h i a => opv (v := .int .u64 0) rfl rfl (binop_lit rfl (a.v 16 (c 0 rfl)) rfl (by kernel_rfl)) rfl,
  fun f s W b c d h i a => opm (a.v 17 (c 1 rfl)), trivial⟩ ?_
 intro f3 s3 W3 hB3 g3 hg3 z3
 have k3_1 := kt hg3 1 (kt hg2 1 (kt hg1 1 k1))
 refine rw_ 3 [(18, 0), (19, 1), (8, 2)] [[], [0], [1]] (rel [is (.int .u64 3), is (.int .u64 3), is (.int .u64 3)])
  ⟨fun f s W b c d h i a => opm (a.v 1 k3_1),
  fun f s W b c d h i a => opv (v := .int .u64 3) rfl rfl (binop_lit rfl (a.v 18 (c 0 rfl)) rfl (by kernel_rfl)) rfl,
  fun f s W b c d h i a => opm (a.v 19 (c 1 rfl)), trivial⟩ ?_
 intro f4 s4 W4 hB4 g4 hg4 z4
 have k4_1 := kt hg4 1 k3_1
 refine rw_ 3 [(20, 0), (21, 1), (9, 2)] [[], [0], [1]] (rel [is (.int .u64 3), is (.int .u64 0), is (.int .u64 0)])
  ⟨fun f s W b c d h i a => opm (a.v 1 k4_1),
  fun f s W b c d h i a => opv (v := .int .u64 0) rfl rfl (binop_lit rfl (a.v 20 (c 0 rfl)) rfl (by kernel_rfl)) rfl,
  fun f s W b c d h i a => opm (a.v 21 (c 1 rfl)), trivial⟩ ?_
 intro f5 s5 W5 hB5 g5 hg5 z5
 have k5_6 := kt hg5 6 (kt hg4 6 (kt hg3 6 (kt hg2 6 (hB2.is 2))))
 have k5_8 := kt hg5 8 (kt hg4 8 (hB4.is 2))
 refine rw_ 4 [(22, 0), (23, 1), (24, 2), (10, 3)] [[], [], [0, 1], [2]] (rel [is (.int .u64 1), is (.int .u64 3), is (.int .u64 3), is (.int .u64 3)])
  ⟨fun f s W b c d h i a => opm (a.v 6 k5_6),
  fun f s W b c d h i a => opm (a.v 8 k5_8),
  fun f s W b c d h i a => opv rfl rfl (by simp [go_sem, a.e 22 (c 0 rfl), a.e 23 (c 1 rfl), IntWalk.u64_in (3) (by omega)]) rfl,
  fun f s W b c d h i a => opm (a.v 24 (c 2 rfl)), trivial⟩ ?_
 intro f6 s6 W6 hB6 g6 hg6 z6
 have k6_7 := kt hg6 7 (kt hg5 7 (kt hg4 7 (kt hg3 7 (hB3.is 2))))
 have k6_8 := kt hg6 8 k5_8
 have k6_10 := kt hg6 10 (hB6.is 3)
 refine rw_ 7 [(25, 0), (26, 1), (27, 2), (28, 3), (29, 4), (30, 5), (11, 6)] [[], [], [0, 1], [], [3], [2, 4], [5]] (rel [is (.int .u64 0), is (.int .u64 3), is (.int .u64 0), is (.int .u64 3), is (.int .u64 0), is (.int .u64 0), is (.int .u64 0)])
  ⟨fun f s W b c d h i a => opm (a.v 7 k6_7),
  fun f s W b c d h i a => opm (a.v 8 k6_8),
  fun f s W b c d h i a => opv rfl rfl (by simp [go_sem, a.e 25 (c 0 rfl), a.e 26 (c 1 rfl), IntWalk.u64_in (0) (by omega)]) rfl,
  fun f s W b c d h i a => opm (a.v 10 k6_10),
  fun f s W b c d h i a => opv (v := .int .u64 0) rfl rfl (binop_lit rfl (a.v 28 (c 3 rfl)) rfl (by kernel_rfl)) rfl,
  fun f s W b c d h i a => opv rfl rfl (by simp [go_sem, a.e 27 (c 2 rfl), a.e 29 (c 4 rfl), IntWalk.u64_in (0) (by omega)]) rfl,
  fun f s W b c d h i a => opm (a.v 30 (c 5 rfl)), trivial⟩ ?_
 intro f7 s7 W7 hB7 g7 hg7 z7
 have k7_11 := kt hg7 11 (hB7.is 6)
 refine rw_ 3 [(31, 0), (32, 1), (12, 2)] [[], [0], [1]] (rel [is (.int .u64 0), is (.int .u64 0), is (.int .u64 0)])
  ⟨fun f s W b c d h i a => opm (a.v 11 k7_11),
  fun f s W b c d h i a => opv (v := .int .u64 0) rfl rfl (binop_lit rfl (a.v 31 (c 0 rfl)) rfl (by kernel_rfl)) rfl,
  fun f s W b c d h i a => opm (a.v 32 (c 1 rfl)), trivial⟩ ?_
 intro f8 s8 W8 hB8 g8 hg8 z8
 have k8_11 := kt hg8 11 k7_11
 refine rw_ 3 [(33, 0), (34, 1), (13, 2)] [[], [0], [1]] (rel [is (.int .u64 0), is (.int .u64 0), is (.int .u64 0)])
  ⟨fun f s W b c d h i a => opm (a.v 11 k8_11),
  fun f s W b c d h i a => opv (v := .int .u64 0) rfl rfl (binop_lit rfl (a.v 33 (c 0 rfl)) rfl (by kernel_rfl)) rfl,
  fun f s W b c d h i a => opm (a.v 34 (c 1 rfl)), trivial⟩ ?_
 intro f9 s9 W9 hB9 g9 hg9 z9
 have k9_6 := kt hg9 6 (kt hg8 6 (kt hg7 6 (kt hg6 6 k5_6)))
 have k9_9 := kt hg9 9 (kt hg8 9 (kt hg7 9 (kt hg6 9 (kt hg5 9 (hB5.is 2)))))
 have k9_12 := kt hg9 12 (kt hg8 12 (hB8.is 2))
 refine rw_ 6 [(35, 0), (36, 1), (37, 2), (38, 3), (39, 4), (12, 5)] [[], [], [], [1, 2], [0, 3], [0, 4]] (rel [is (.int .u64 0), is (.int .u64 1), is (.int .u64 0), is (.int .u64 0), is (.int .u64 0), is (.int .u64 0)])
  ⟨fun f s W b c d h i a => opm (a.v 12 ((h 5 12 rfl rfl).trans k9_12)),
  fun f s W b c d h i a => opm (a.v 6 k9_6),
  fun f s W b c d h i a => opm (a.v 9 k9_9),
  fun f s W b c d h i a => opv rfl rfl (by simp [go_sem, a.e 36 (c 1 rfl), a.e 37 (c 2 rfl), IntWalk.u64_in (0) (by omega)]) rfl,
  fun f s W b c d h i a => opv rfl rfl (by simp [go_sem, a.e 35 (c 0 rfl), a.e 38 (c 3 rfl), IntWalk.u64_in (0) (by omega)]) rfl,
  fun f s W b c d h i a => opm (a.v 39 (c 4 rfl)), trivial⟩ ?_
 intro f10 s10 W10 hB10 g10 hg10 z10
 have k10_7 := kt hg10 7 (kt hg9 7 (kt hg8 7 (kt hg7 7 k6_7)))
 have k10_9 := kt hg10 9 k9_9
 have k10_13 := kt hg10 13 (kt hg9 13 (hB9.is 2))
 have k10_12 := kt hg10 12 (hB10.is 5)
 refine rw_ 9 [(40, 0), (41, 1), (42, 2), (43, 3), (44, 4), (45, 5), (46, 6), (47, 7), (4, 8)] [[], [], [0, 1], [], [2, 3], [], [5], [4, 6], [7]] (rel [is (.int .u64 0), is (.int .u64 0), is (.int .u64 0), is (.int .u64 0), is (.int .u64 0), is (.int .u64 0), is (.int .u64 0), is (.int .u64 0), is (.int .u64 0)])
  ⟨fun f s W b c d h i a => opm (a.v 7 k10_7),
  fun f s W b c d h i a => opm (a.v 9 k10_9),
  fun f s W b c d h i a => opv rfl rfl (by simp [go_sem, a.e 40 (c 0 rfl), a.e 41 (c 1 rfl), IntWalk.u64_in (0) (by omega)]) rfl,
  fun f s W b c d h i a => opm (a.v 13 k10_13),
  fun f s W b c d h i a => opv rfl rfl (by simp [go_sem, a.e 42 (c 2 rfl), a.e 43 (c 3 rfl), IntWalk.u64_in (0) (by omega)]) rfl,
  fun f s W b c d h i a => opm (a.v 12 k10_12),
  fun f s W b c d h i a => opv (v := .int .u64 0) rfl rfl (binop_lit rfl (a.v 45 (c 5 rfl)) rfl (by kernel_rfl)) rfl,
  fun f s W b c d h i a => opv rfl rfl (by simp [go_sem, a.e 44 (c 4 rfl), a.e 46 (c 6 rfl), IntWalk.u64_in (0) (by omega)]) rfl,
  fun f s W b c d h i a => opm (a.v 47 (c 7 rfl)), trivial⟩ ?_
 intro f11 s11 W11 hB11 g11 hg11 z11
 have k11_0 := kt hg11 0 (kt hg10 0 (kt hg9 0 (kt hg8 0 (kt hg7 0 (kt hg6 0 (kt hg5 0 (kt hg4 0 (kt hg3 0 k2_0))))))))
 have k11_1 := kt hg11 1 (kt hg10 1 (kt hg9 1 (kt hg8 1 (kt hg7 1 (kt hg6 1 (kt hg5 1 k4_1))))))
 refine rw_ 4 [(48, 0), (49, 1), (50, 2), (5, 3)] [[], [], [0, 1], [2]] (rel [is (.int .u64 1), is (.int .u64 3), is (.int .u64 3), is (.int .u64 3)])
  ⟨fun f s W b c d h i a => opm (a.v 0 k11_0),
  fun f s W b c d h i a => opm (a.v 1 k11_1),
  fun f s W b c d h i a => opv rfl rfl (by simp [go_sem, a.e 48 (c 0 rfl), a.e 49 (c 1 rfl), IntWalk.u64_in (3) (by omega)]) rfl,
  fun f s W b c d h i a => opm (a.v 50 (c 2 rfl)), trivial⟩ ?_
 intro f12 s12 W12 hB12 g12 hg12 z12
 have fB12 := hB12.f (hB11.f (hB10.f (hB9.f (hB8.f (hB7.f (hB6.f (hB5.f (hB4.f (hB3.f (hB2.f (hB1.f fB0)))))))))))
 have k12_4 := kt hg12 4 (kt hg11 4 (hB11.is 8))
 have k12_5 := kt hg12 5 (hB12.is 3)
 refine wp_ret ?_
 refine leave_gen (v := .tuple #[.int .u64 0, .int .u64 3]) (.inr rfl) (by simp [results, Try.results158, go_sem, frv 51 k12_4, frv 51 k12_5]) ?_
 exact ⟨rfl, fB12⟩
theorem mul_13 (w : World) :
  Calls Try.prog 144 #[.int .u64 1, .int .u64 3] w (fun e w' => e = .returned (.tuple #[.int .u64 0, .int .u64 3]) ∧ Below w.heap.size w w') := by
 refine calls_fr Try.func144 Try.ntmps144 rfl rfl fun g hg => ?_
 have k0 : g 0 = .int .u64 1 := hg 0
 have k1 : g 1 = .int .u64 3 := hg 1
 clear hg
 have fB0 : Below w.heap.size w w := Below.refl _ _
 refine rw_ 2 [(4, 0), (5, 1)] [[], []] (rel [is (.int .u64 0), is (.int .u64 0)])
  ⟨fun f s W b c d h i a => opz,
  fun f s W b c d h i a => opz, trivial⟩ ?_
 intro f1 s1 W1 hB1 g1 hg1 z1
 have k1_0 := kt hg1 0 k0
 have k1_1 := kt hg1 1 k1
 refine wp_seq_k fun K2 hK2 => ?_
 refine wp_cond_false (rfl) ?_
 refine wp_skip ?_
 refine hK2 _ _ ?_
 refine rw_ 8 [(23, 0), (24, 1), (25, 2), (22, 3), (26, 4), (27, 5), (8, 6), (9, 7)] [[], [], [0, 1], [2], [3], [3], [4], [5]] (rel [is (.int .u64 1), is (.int .u64 3), is (.tuple #[.int .u64 0, .int .u64 3]), is (.tuple #[.int .u64 0, .int .u64 3]), is (.int .u64 0), is (.int .u64 3), is (.int .u64 0), is (.int .u64 3)])
  ⟨fun f s W b c d h i a => opm (a.v 0 k1_0),
  fun f s W b c d h i a => opm (a.v 1 k1_1),
  fun f s W b c d h i a => opc rfl rfl (by simp [go_sem, a.e 23 (c 0 rfl), a.e 24 (c 1 rfl)]) (mul64_13 W),
  fun f s W b c d h i a => opm (a.v 25 (c 2 rfl)),
  fun f s W b c d h i a => opv rfl rfl (by simp [go_sem, a.e 22 (c 3 rfl)]) rfl,
  fun f s W b c d h i a => opv rfl rfl (by simp [go_sem, a.e 22 (c 3 rfl)]) rfl,
  fun f s W b c d h i a => opm (a.v 26 (c 4 rfl)),
  fun f s W b c d h i a => opm (a.v 27 (c 5 rfl)), trivial⟩ ?_
 intro f2 s2 W2 hB2 g2 hg2 z2
 have k2_8 := kt hg2 8 (hB2.is 6)
 have k2_9 := kt hg2 9 (hB2.is 7)
 refine rw_ 4 [(28, 0), (29, 1), (4, 2), (5, 3)] [[], [], [0], [1]] (rel [is (.int .u64 0), is (.int .u64 3), is (.int .u64 0), is (.int .u64 3)])
  ⟨fun f s W b c d h i a => opm (a.v 8 k2_8),
  fun f s W b c d h i a => opm (a.v 9 k2_9),
  fun f s W b c d h i a => opm (a.v 28 (c 0 rfl)),
  fun f s W b c d h i a => opm (a.v 29 (c 1 rfl)), trivial⟩ ?_
 intro f3 s3 W3 hB3 g3 hg3 z3
 have fB3 := hB3.f (hB2.f (hB1.f fB0))
 have k3_4 := kt hg3 4 (hB3.is 2)
 have k3_5 := kt hg3 5 (hB3.is 3)
 refine wp_ret ?_
 refine leave_gen (v := .tuple #[.int .u64 0, .int .u64 3]) (.inr rfl) (by simp [results, Try.results144, go_sem, frv 30 k3_4, frv 30 k3_5]) ?_
 exact ⟨rfl, fB3⟩
theorem repeat3 (x : Int) (bx : Nat) (w : World) (hb : w.heap[bx]? = some (.cells #[.int .i64 x] 3 (0, 0))) :
  Calls Try.prog 121 #[.slice (some ⟨bx, 0, none⟩) 1 1, .int .i64 3] w (fun e w' => ∃ g c, e = .returned (.slice (some ⟨g, 0, none⟩) 3 c) ∧ w'.heap[g]? = some (.cells #[.int .i64 x, .int .i64 x, .int .i64 x] 3 (0, 0)) ∧ w.heap.size ≤ g ∧ Below w.heap.size w w') := by
 refine calls_fr Try.func121 Try.ntmps121 rfl rfl fun g hg => ?_
 have k0 : g 0 = .slice (some ⟨bx, 0, none⟩) 1 1 := hg 0
 have k1 : g 1 = .int .i64 3 := hg 1
 clear hg
 have fB0 : Below w.heap.size w w := Below.refl _ _
 have lt_bx := ltb hb
 refine rw_ 1 [(4, 0)] [[]] (rel [is (.slice none 0 0)])
  ⟨fun f s W m n p q r i => opv rfl rfl (by simp [go_sem]) rfl, trivial⟩ ?_
 intro f1 s1 W1 hB1 g1 hg1 z1
 have k1_1 := kt hg1 1 k1
 refine wp_seq_k fun K2 hK2 => ?_
 refine rw_ 2 [(9, 0), (10, 1)] [[], [0]] (rel [iI 3, iB false])
  ⟨fun f s W m n p q r i => opm (i.v 1 k1_1),
  fun f s W m n p q r i => opv rfl rfl (by simp [go_sem, i.e 9 (n 0 rfl)]) rfl, trivial⟩ ?_
 intro f2 s2 W2 hB2 g2 hg2 z2
 have k2_0 := kt hg2 0 (kt hg1 0 k0)
 have k2_1 := kt hg2 1 k1_1
 have k2_10 := kt hg2 10 (hB2.is 1)
 refine wp_cond_false ((fr_eval rfl).trans k2_10) ?_
 refine wp_skip ?_
 refine hK2 _ _ ?_
 refine rw_ 11 [(13, 0), (14, 1), (15, 2), (16, 3), (17, 4), (18, 5), (12, 6), (19, 7), (20, 8), (5, 9), (6, 10)] [[], [0], [1], [], [3], [2, 4], [5], [6], [6], [7], [8]] (rel [is (.slice (some ⟨bx, 0, none⟩) 1 1), iI 1, is (.int .u64 1), iI 3, is (.int .u64 3), is (.tuple #[.int .u64 0, .int .u64 3]), is (.tuple #[.int .u64 0, .int .u64 3]), is (.int .u64 0), is (.int .u64 3), is (.int .u64 0), is (.int .u64 3)])
  ⟨fun f s W m n p q r i => opm (i.v 0 k2_0),
  fun f s W m n p q r i => opv rfl rfl (by simp [go_sem, i.e 13 (n 0 rfl)]) rfl,
  fun f s W m n p q r i => by have cv_ := IntWalk.u64_in (1) (by omega); exact opv rfl rfl (by simp [go_sem, i.e 14 (n 1 rfl), cv_]) rfl,
  fun f s W m n p q r i => opm (i.v 1 k2_1),
  fun f s W m n p q r i => by have cv_ := IntWalk.u64_in (3) (by omega); exact opv rfl rfl (by simp [go_sem, i.e 16 (n 3 rfl), cv_]) rfl,
  fun f s W m n p q r i => opc rfl rfl (by simp [go_sem, i.e 15 (n 2 rfl), i.e 17 (n 4 rfl)]) (mul_13 W),
  fun f s W m n p q r i => opm (i.v 18 (n 5 rfl)),
  fun f s W m n p q r i => opv rfl rfl (by simp [go_sem, i.e 12 (n 6 rfl)]) rfl,
  fun f s W m n p q r i => opv rfl rfl (by simp [go_sem, i.e 12 (n 6 rfl)]) rfl,
  fun f s W m n p q r i => opm (i.v 19 (n 7 rfl)),
  fun f s W m n p q r i => opm (i.v 20 (n 8 rfl)), trivial⟩ ?_
 intro f3 s3 W3 hB3 g3 hg3 z3
 have k3_5 := kt hg3 5 (hB3.is 9)
 have k3_6 := kt hg3 6 (hB3.is 10)
 refine wp_seq_k fun K6 hK6 => ?_
 refine rw_ 6 [(21, 0), (22, 1), (23, 2), (24, 3), (25, 4), (26, 5)] [[], [0], [1], [2], [2, 3], [2, 4]] (rel [is (.int .u64 0), iB false, iB false, is (.int .u64 3), iB false, iB false])
  ⟨fun f s W m n p q r i => opm (i.v 5 k3_5),
  fun f s W m n p q r i => opv rfl rfl (by simp [go_sem, i.e 21 (n 0 rfl)]) rfl,
  fun f s W m n p q r i => opm (i.v 22 (n 1 rfl)),
  fun f s W m n p q r i => osure rfl rfl (i.says (d := 23) rfl rfl (n 2 rfl)) (gv (by simp [go_sem, i.e 6 k3_6]) rfl),
  fun f s W m n p q r i => osure rfl rfl (i.says (d := 23) rfl rfl (n 2 rfl)) (gv (by simp [go_sem, i.e 24 (n 3 rfl)]) rfl),
  fun f s W m n p q r i => opk (c := false) rfl rfl (fun _ => by simp [go_sem, i.e 23 (n 2 rfl), i.e 25 (n 4 rfl)]) (fun h => absurd h (by decide)), trivial⟩ ?_
 intro f4 s4 W4 hB4 g4 hg4 z4
 have k4_6 := kt hg4 6 k3_6
 have k4_26 := kt hg4 26 (hB4.is 5)
 refine wp_cond_false ((fr_eval rfl).trans k4_26) ?_
 refine wp_skip ?_
 refine hK6 _ _ ?_
 refine rx 4 [(28, 0), (29, 1), (30, 2), (7, 3)] [[], [0], [1], [0, 1, 2]] (rel [is (.int .u64 3), iI 3, row 2 3 #[.int .i64 0, .int .i64 0, .int .i64 0] 3, isS fun s => .slice (some ⟨(s 2), 0, none⟩) (3) (3)])
  ⟨is_k, is_k, row_k, isS_k fun s s' e => by rw [e 2 (by simp)], trivial⟩
  ⟨fun f s W m n p q r i => opm (i.v 6 k4_6),
  fun f s W m n p q r i => by have cv_ := IntWalk.i64_in (3) (by omega); exact opv rfl rfl (by simp [go_sem, i.e 28 (n 0 rfl), cv_]) rfl,
  fun f s W m n p q r i => opr rfl rfl (by simp [go_sem, i.e 29 (n 1 rfl)]; kernel_rfl),
  fun f s W m n p q r i => opv rfl rfl (by simp [go_sem, i.e 30 (n 2 rfl).1, upd]) rfl, trivial⟩ ?_
 intro f5 s5 W5 hB5 g5 hg5 z5
 obtain ⟨r5_2, br5_2⟩ := hB5.is 2
 have lr5_2 := hB5.lr 2 br5_2
 have k5_0 := kt hg5 0 (kt hg4 0 (kt hg3 0 k2_0))
 have k5_7 := kt hg5 7 (hB5.is 3)
 refine wp_seq_k fun K10 hK10 => ?_
 refine ry 2 [(31, 0), (32, 1), (33, 2), (8, 3)] [[], [], [0, 1], [0, 1, 2]] (rel [is (.slice (some ⟨(s5 2), 0, none⟩) (3) (3)), is (.slice (some ⟨bx, 0, none⟩) 1 1)])
  ⟨fun f s W m n p q r i => opm (i.v 7 k5_7),
  fun f s W m n p q r i => opm (i.v 0 k5_0), trivial⟩ ?_
 intro f6 s6 W6 hB6 g6 hg6 z6
 have fB6 := hB6.f (hB5.f (hB4.f (hB3.f (hB2.f (hB1.f fB0)))))
 have b6_0 := hB6.b (hB5.b (hB4.b (hB3.b (hB2.b (hB1.b hb)))))
 have b6_1 := hB6.b br5_2
 have k6_31 := kt hg6 31 (hB6.is 0)
 have k6_32 := kt hg6 32 (hB6.is 1)
 obtain ⟨W7, hW7⟩ : ∃ W', W' = W6.setRow (s5 2) #[.int .i64 x, .int .i64 0, .int .i64 0] := ⟨_, rfl⟩
 have hs7 : ∀ j v, ([.int .i64 x] : List Value)[j]? = some v → W6.cell? ⟨bx, 0 + j, none⟩ = some v := by
  intro j v hj
  match j, hj with
  | 0, hj => cases hj; exact cl b6_0 0
  | q_ + 1, hj => exact absurd hj (by simp)
 refine tail_value2 (o := _) rfl rfl rfl (v := .int .i64 1) (run_copyOp (fr_ev k6_31) (fr_ev k6_32) (copy_row 25 3 3 [.int .i64 x] (by kernel_rfl) (by kernel_rfl) b6_1 rfl hs7 rfl rfl rfl hW7)) ?_
 obtain ⟨fB7, nb7, ot7, z7⟩ := sgf hW7 fB6 b6_1 (by omega)
 generalize hg7 : upd g6 33 (.int .i64 1) = g7
 have k7_33 := kt hg7 33 (upd_same _ _ _)
 refine tail_value (o := _) rfl rfl rfl (v := .int .i64 1) (by simp [go_sem, frv 48 k7_33]) ?_
 generalize hg8 : upd g7 8 (.int .i64 1) = g8
 have k8_7 := ku hg8 7 (ku hg7 7 (kt hg6 7 k5_7))
 have k8_8 := kt hg8 8 (upd_same _ _ _)
 refine wpe ?_
 refine hK10 _ _ ?_
 refine wp_seq_k fun K11 hK11 => ?_
 refine wp_block ?_
 refine wp_loop_rounds 3 ?_
 rw [rounds_succ]
 refine wp_seq_k fun K12 hK12 => ?_
 refine rw_ 4 [(34, 0), (35, 1), (36, 2), (37, 3)] [[], [], [1], [0, 2]] (rel [iI 1, is (.slice (some ⟨(s5 2), 0, none⟩) (3) (3)), iI 3, iB true])
  ⟨fun f s W m n p q r i => opm (i.v 8 k8_8),
  fun f s W m n p q r i => opm (i.v 7 k8_7),
  fun f s W m n p q r i => opv rfl rfl (by simp [go_sem, i.e 35 (n 1 rfl)]) rfl,
  fun f s W m n p q r i => opv rfl rfl (by simp [go_sem, i.e 34 (n 0 rfl), i.e 36 (n 2 rfl)]) rfl, trivial⟩ ?_
 intro f9 s9 W9 hB9 g9 hg9 z9
 have fB9 := hB9.f fB7
 have b9_1 := hB9.b nb7
 have k9_7 := kt hg9 7 k8_7
 have k9_8 := kt hg9 8 k8_8
 have k9_37 := kt hg9 37 (hB9.is 3)
 refine wp_cond_true ((fr_eval rfl).trans k9_37) ?_
 refine wp_skip ?_
 refine hK12 _ _ ?_
 refine wp_block ?_
 obtain ⟨l10, hl10⟩ : ∃ l : List Tg, [⟨(s5 2), 3, #[.int .i64 x, .int .i64 0, .int .i64 0], #[.int .i64 x, .int .i64 x, .int .i64 0]⟩] = l := ⟨_, rfl⟩
 have hm10_0 := hl10 ▸ (.head _ : (⟨(s5 2), 3, #[.int .i64 x, .int .i64 0, .int .i64 0], #[.int .i64 x, .int .i64 x, .int .i64 0]⟩ : Tg) ∈ ([⟨(s5 2), 3, #[.int .i64 x, .int .i64 0, .int .i64 0], #[.int .i64 x, .int .i64 x, .int .i64 0]⟩] : List Tg))
 have hdi10 : tgD l10 := hl10 ▸ (by simp only [tgD, List.mem_cons, List.not_mem_nil, or_false, forall_eq_or_imp, forall_eq, false_implies, implies_true, and_true, ne_eq] <;> omega)
 have nx10_0 : ¬ tgS l10 bx := fun e => by rw [← hl10] at e; simp only [tgS, or_false] at e; omega
 have hlo10 : ∀ k, tgS l10 k → w.heap.size ≤ k := fun k e => by rw [← hl10] at e; simp only [tgS, or_false] at e; omega
 have hst10 := tgP_stay l10
 have hbl10 : ∀ a b, Below a.heap.size a b → LeX (tgS l10) (tgP l10) a b := LeX.of_below hst10
 refine region_doL (LeX (tgS l10) (tgP l10)) LeX.refl (LeX.drew hst10) LeX.trans (fun _ _ h => h.size) 8 [(38, 0), (39, 1), (40, 2), (41, 3), (42, 4), (43, 5), (44, 6), (45, 7), (46, 8), (8, 9)] [[], [], [], [1, 2], [], [], [4, 5], [1, 2, 3, 4, 5, 6], [0, 1, 2, 3, 4, 5, 6, 7], [0, 1, 2, 3, 4, 5, 6, 7, 8]] (rel [is (.int .i64 1),
   is (.slice (some ⟨(s5 2), 0, none⟩) (3) (3)),
   is (.int .i64 1),
   is (.slice (some ⟨(s5 2), 1, none⟩) (2) (2)),
   is (.slice (some ⟨(s5 2), 0, none⟩) (3) (3)),
   is (.int .i64 1),
   is (.slice (some ⟨(s5 2), 0, none⟩) (1) (3)),
   fun v _ W => v = .int .i64 1 ∧ W.heap[(s5 2)]? = some (.cells #[.int .i64 x, .int .i64 x, .int .i64 0] 3 (0, 0))]) (by kernel_rfl) (by kernel_rfl) (by kernel_rfl) (by kernel_rfl)
  ⟨is_kl, is_kl, is_kl, is_kl, is_kl, is_kl, is_kl, nowV_k hm10_0, trivial⟩
  ⟨fun f s W m n p q r i => OpDo.l hbl10 (opv rfl rfl (by simp [go_sem, i.e 8 ((q 9 8 rfl rfl).trans k9_8)]) rfl),
  fun f s W m n p q r i => OpDo.l hbl10 (opv rfl rfl (by simp [go_sem, i.e 7 k9_7]) rfl),
  fun f s W m n p q r i => OpDo.l hbl10 (opv rfl rfl (by simp [go_sem, i.e 8 ((q 9 8 rfl rfl).trans k9_8)]) rfl),
  fun f s W m n p q r i => OpDo.l hbl10 (opv rfl rfl (by simp [go_sem, i.e 39 (n 1 rfl), i.e 40 (n 2 rfl)]) rfl),
  fun f s W m n p q r i => OpDo.l hbl10 (opv rfl rfl (by simp [go_sem, i.e 7 k9_7]) rfl),
  fun f s W m n p q r i => OpDo.l hbl10 (opv rfl rfl (by simp [go_sem, i.e 8 ((q 9 8 rfl rfl).trans k9_8)]) rfl),
  fun f s W m n p q r i => OpDo.l hbl10 (opv rfl rfl (by simp [go_sem, i.e 42 (n 4 rfl), i.e 43 (n 5 rfl)]) rfl),
  fun f s W m n p q r i => copO_do (T := 3) hdi10 hm10_0 (m.stay _ (tgP_was hm10_0).1 (.inl b9_1)) rfl (i.v 41 (n 3 rfl)) (i.v 44 (n 6 rfl)) [.int .i64 x] (by kernel_rfl) (by kernel_rfl) rfl rfl rfl (by intro j v hj; match j, hj with | 0, hj => cases hj; rfl | q_ + 1, hj => exact absurd hj (by simp)) (by intro j v hj; match j, hj with | 0, hj => cases hj; rfl | q_ + 1, hj => exact absurd hj (by simp)) rfl rfl rfl rfl, trivial⟩ ?_
 intro f10 s10 W10 hB10
 have fB10 : Below w.heap.size w W10 := (fB9).trans (hB10.le.below (fB9).size hlo10)
 have z10 : W9.heap.size ≤ W10.heap.size := hB10.le.size
 have b10_1 : W10.heap[(s5 2)]? = some (.cells #[.int .i64 x, .int .i64 x, .int .i64 0] 3 (0, 0)) := (hB10.is 7).2
 generalize hg10 : ov [(38, 0), (39, 1), (40, 2), (41, 3), (42, 4), (43, 5), (44, 6), (45, 7), (46, 8), (8, 9)] f10 g9 = g10
 have k10_38 := kt hg10 38 (hB10.is 0)
 have k10_45 := (congrFun hg10.symm 45).trans (hB10.is 7).1
 have wz_ := IntWalk.i64_in (2) (by omega)
 refine tail_value (o := _) rfl rfl rfl (v := .int .i64 2) (by simp [go_sem, frv 48 k10_38, frv 48 k10_45, wz_]) ?_
 generalize hg11 : upd g10 46 (.int .i64 2) = g11
 have k11_46 := kt hg11 46 (upd_same _ _ _)
 refine tail_value (o := _) rfl rfl rfl (v := .int .i64 2) (by simp [go_sem, frv 48 k11_46]) ?_
 generalize hg12 : upd g11 8 (.int .i64 2) = g12
 have k12_7 := ku hg12 7 (ku hg11 7 (kt hg10 7 k9_7))
 have k12_8 := kt hg12 8 (upd_same _ _ _)
 refine wpe ?_
 refine ibn ?_
 refine then_normal ?_
 rw [rounds_succ]
 refine wp_seq_k fun K15 hK15 => ?_
 refine rw_ 4 [(34, 0), (35, 1), (36, 2), (37, 3)] [[], [], [1], [0, 2]] (rel [iI 2, is (.slice (some ⟨(s5 2), 0, none⟩) (3) (3)), iI 3, iB true])
  ⟨fun f s W m n p q r i => opm (i.v 8 k12_8),
  fun f s W m n p q r i => opm (i.v 7 k12_7),
  fun f s W m n p q r i => opv rfl rfl (by simp [go_sem, i.e 35 (n 1 rfl)]) rfl,
  fun f s W m n p q r i => opv rfl rfl (by simp [go_sem, i.e 34 (n 0 rfl), i.e 36 (n 2 rfl)]) rfl, trivial⟩ ?_
 intro f13 s13 W13 hB13 g13 hg13 z13
 have fB13 := hB13.f fB10
 have b13_1 := hB13.b b10_1
 have k13_7 := kt hg13 7 k12_7
 have k13_8 := kt hg13 8 k12_8
 have k13_37 := kt hg13 37 (hB13.is 3)
 refine wp_cond_true ((fr_eval rfl).trans k13_37) ?_
 refine wp_skip ?_
 refine hK15 _ _ ?_
 refine wp_block ?_
 obtain ⟨l14, hl14⟩ : ∃ l : List Tg, [⟨(s5 2), 3, #[.int .i64 x, .int .i64 x, .int .i64 0], #[.int .i64 x, .int .i64 x, .int .i64 x]⟩] = l := ⟨_, rfl⟩
 have hm14_0 := hl14 ▸ (.head _ : (⟨(s5 2), 3, #[.int .i64 x, .int .i64 x, .int .i64 0], #[.int .i64 x, .int .i64 x, .int .i64 x]⟩ : Tg) ∈ ([⟨(s5 2), 3, #[.int .i64 x, .int .i64 x, .int .i64 0], #[.int .i64 x, .int .i64 x, .int .i64 x]⟩] : List Tg))
 have hdi14 : tgD l14 := hl14 ▸ (by simp only [tgD, List.mem_cons, List.not_mem_nil, or_false, forall_eq_or_imp, forall_eq, false_implies, implies_true, and_true, ne_eq] <;> omega)
 have nx14_0 : ¬ tgS l14 bx := fun e => by rw [← hl14] at e; simp only [tgS, or_false] at e; omega
 have hlo14 : ∀ k, tgS l14 k → w.heap.size ≤ k := fun k e => by rw [← hl14] at e; simp only [tgS, or_false] at e; omega
 have hst14 := tgP_stay l14
 have hbl14 : ∀ a b, Below a.heap.size a b → LeX (tgS l14) (tgP l14) a b := LeX.of_below hst14
 refine region_doL (LeX (tgS l14) (tgP l14)) LeX.refl (LeX.drew hst14) LeX.trans (fun _ _ h => h.size) 8 [(38, 0), (39, 1), (40, 2), (41, 3), (42, 4), (43, 5), (44, 6), (45, 7), (46, 8), (8, 9)] [[], [], [], [1, 2], [], [], [4, 5], [1, 2, 3, 4, 5, 6], [0, 1, 2, 3, 4, 5, 6, 7], [0, 1, 2, 3, 4, 5, 6, 7, 8]] (rel [is (.int .i64 2),
   is (.slice (some ⟨(s5 2), 0, none⟩) (3) (3)),
   is (.int .i64 2),
   is (.slice (some ⟨(s5 2), 2, none⟩) (1) (1)),
   is (.slice (some ⟨(s5 2), 0, none⟩) (3) (3)),
   is (.int .i64 2),
   is (.slice (some ⟨(s5 2), 0, none⟩) (2) (3)),
   fun v _ W => v = .int .i64 1 ∧ W.heap[(s5 2)]? = some (.cells #[.int .i64 x, .int .i64 x, .int .i64 x] 3 (0, 0))]) (by kernel_rfl) (by kernel_rfl) (by kernel_rfl) (by kernel_rfl)
  ⟨is_kl, is_kl, is_kl, is_kl, is_kl, is_kl, is_kl, nowV_k hm14_0, trivial⟩
  ⟨fun f s W m n p q r i => OpDo.l hbl14 (opv rfl rfl (by simp [go_sem, i.e 8 ((q 9 8 rfl rfl).trans k13_8)]) rfl),
  fun f s W m n p q r i => OpDo.l hbl14 (opv rfl rfl (by simp [go_sem, i.e 7 k13_7]) rfl),
  fun f s W m n p q r i => OpDo.l hbl14 (opv rfl rfl (by simp [go_sem, i.e 8 ((q 9 8 rfl rfl).trans k13_8)]) rfl),
  fun f s W m n p q r i => OpDo.l hbl14 (opv rfl rfl (by simp [go_sem, i.e 39 (n 1 rfl), i.e 40 (n 2 rfl)]) rfl),
  fun f s W m n p q r i => OpDo.l hbl14 (opv rfl rfl (by simp [go_sem, i.e 7 k13_7]) rfl),
  fun f s W m n p q r i => OpDo.l hbl14 (opv rfl rfl (by simp [go_sem, i.e 8 ((q 9 8 rfl rfl).trans k13_8)]) rfl),
  fun f s W m n p q r i => OpDo.l hbl14 (opv rfl rfl (by simp [go_sem, i.e 42 (n 4 rfl), i.e 43 (n 5 rfl)]) rfl),
  fun f s W m n p q r i => copO_do (T := 3) hdi14 hm14_0 (m.stay _ (tgP_was hm14_0).1 (.inl b13_1)) rfl (i.v 41 (n 3 rfl)) (i.v 44 (n 6 rfl)) [.int .i64 x] (by kernel_rfl) (by kernel_rfl) rfl rfl rfl (by intro j v hj; match j, hj with | 0, hj => cases hj; rfl | q_ + 1, hj => exact absurd hj (by simp)) (by intro j v hj; match j, hj with | 0, hj => cases hj; rfl | q_ + 1, hj => exact absurd hj (by simp)) rfl rfl rfl rfl, trivial⟩ ?_
 intro f14 s14 W14 hB14
 have fB14 : Below w.heap.size w W14 := (fB13).trans (hB14.le.below (fB13).size hlo14)
 have z14 : W13.heap.size ≤ W14.heap.size := hB14.le.size
 have b14_1 : W14.heap[(s5 2)]? = some (.cells #[.int .i64 x, .int .i64 x, .int .i64 x] 3 (0, 0)) := (hB14.is 7).2
 generalize hg14 : ov [(38, 0), (39, 1), (40, 2), (41, 3), (42, 4), (43, 5), (44, 6), (45, 7), (46, 8), (8, 9)] f14 g13 = g14
 have k14_38 := kt hg14 38 (hB14.is 0)
 have k14_45 := (congrFun hg14.symm 45).trans (hB14.is 7).1
 have wz_ := IntWalk.i64_in (3) (by omega)
 refine tail_value (o := _) rfl rfl rfl (v := .int .i64 3) (by simp [go_sem, frv 48 k14_38, frv 48 k14_45, wz_]) ?_
 generalize hg15 : upd g14 46 (.int .i64 3) = g15
 have k15_46 := kt hg15 46 (upd_same _ _ _)
 refine tail_value (o := _) rfl rfl rfl (v := .int .i64 3) (by simp [go_sem, frv 48 k15_46]) ?_
 generalize hg16 : upd g15 8 (.int .i64 3) = g16
 have k16_7 := ku hg16 7 (ku hg15 7 (kt hg14 7 k13_7))
 have k16_8 := kt hg16 8 (upd_same _ _ _)
 refine wpe ?_
 refine ibn ?_
 refine then_normal ?_
 rw [rounds_succ]
 refine wp_seq_k fun K18 hK18 => ?_
 refine rw_ 4 [(34, 0), (35, 1), (36, 2), (37, 3)] [[], [], [1], [0, 2]] (rel [iI 3, is (.slice (some ⟨(s5 2), 0, none⟩) (3) (3)), iI 3, iB false])
  ⟨fun f s W m n p q r i => opm (i.v 8 k16_8),
  fun f s W m n p q r i => opm (i.v 7 k16_7),
  fun f s W m n p q r i => opv rfl rfl (by simp [go_sem, i.e 35 (n 1 rfl)]) rfl,
  fun f s W m n p q r i => opv rfl rfl (by simp [go_sem, i.e 34 (n 0 rfl), i.e 36 (n 2 rfl)]) rfl, trivial⟩ ?_
 intro f17 s17 W17 hB17 g17 hg17 z17
 have k17_7 := kt hg17 7 k16_7
 have k17_37 := kt hg17 37 (hB17.is 3)
 refine wp_cond_false ((fr_eval rfl).trans k17_37) ?_
 refine wp_exit ?_
 refine then_exit ?_
 refine then_exit ?_
 refine inBlock_at ?_
 refine hK11 _ _ ?_
 refine rw_ 2 [(47, 0), (4, 1)] [[], [0]] (rel [is (.slice (some ⟨(s5 2), 0, none⟩) (3) (3)), is (.slice (some ⟨(s5 2), 0, none⟩) (3) (3))])
  ⟨fun f s W m n p q r i => opm (i.v 7 k17_7),
  fun f s W m n p q r i => opm (i.v 47 (n 0 rfl)), trivial⟩ ?_
 intro f18 s18 W18 hB18 g18 hg18 z18
 have fB18 := hB18.f (hB17.f fB14)
 have b18_1 := hB18.b (hB17.b b14_1)
 have k18_4 := kt hg18 4 (hB18.is 1)
 refine wp_ret ?_
 refine leave_one (N := 48) (.inr rfl) Try.results121 rfl k18_4 ?_
 exact ⟨_, _, rfl, b18_1, by omega, fB18⟩
end Go.Proofs.Ytcgccflcjejlhaa
