/- Part of the proof: what the claim leans on. -/
import Derived.Deep.RegionHeld3
import Derived.Deep.AppendLies
import Derived.Test.YtnhipdbdolabkaaWAD
set_option linter.unusedSimpArgs false
set_option linter.unusedVariables false
namespace Go.Proofs.Ytnhipdbdolabkaa
open Go.RowKit
set_option maxHeartbeats 400000 in
theorem with_any (long cal caliper : Int) (w : World) (h1 : -100000 ≤ long) (h2 : long ≤ 100000) (h3 : 0 ≤ cal) (h4 : cal ≤ 10) (h5 : 0 ≤ caliper) (h6 : caliper ≤ 100000) :
    Calls Try.prog 71 #[.agg #[.int .i64 long, .int .i64 cal], .int .i64 caliper] w fun e w' => e = .returned (.int .i64 (1000 * long - cal * caliper)) ∧ Below w.heap.size w w' := by
  have h7 : 0 ≤ cal * caliper := Int.mul_nonneg h3 h5
  have h8 : cal * caliper ≤ 10 * 100000 := Int.mul_le_mul h4 h6 h5 (by omega)
  go_enter Try.func71, Try.ntmps71
  go_wp2
  go_ret
  exact ⟨rfl, balloc1 _ _⟩
def foldsOf (op : Bool) : Int := if op then 1 else 2
set_option maxHeartbeats 400000 in
theorem folds_any (c0 c1 c2 c3 c4 c5 : Value) (op : Bool) (w : World) :
    Calls Try.prog 84 #[.agg #[c0, c1, c2, c3, c4, c5, .bool op]] w fun e w' => e = .returned (.int .i64 (foldsOf op)) ∧ Below w.heap.size w w' := by
  cases op with
  | false =>
    go_enter Try.func84, Try.ntmps84
    go_wp2
    go_ret
    exact ⟨rfl, balloc1 _ _⟩
  | true =>
    go_enter Try.func84, Try.ntmps84
    go_wp2
    go_ret
    exact ⟨rfl, balloc1 _ _⟩
set_option maxHeartbeats 1000000 in
theorem gap0 (tab h slot : Int) (op : Bool) (b1 o1 c1 : Nat) (a2 a3 : Option Addr) (n2 c2 n3 c3 bf of cf : Nat) (p f : Int) (w : World)
    (h1 : w.cell? ⟨b1, o1 + 1, none⟩ = some (.int .i64 p)) (h2 : w.cell? ⟨bf, of, none⟩ = some (.int .i64 f)) (l1 : b1 < w.heap.size) (l2 : bf < w.heap.size) (r1 : 0 ≤ p) (r2 : p ≤ 3000) (r3 : 0 ≤ f) (r4 : f ≤ 3000) :
    Calls Try.prog 85 #[.agg #[.int .i64 tab, .slice (some ⟨b1, o1, none⟩) 4 c1, .int .i64 h, .slice a2 n2 c2, .slice a3 n3 c3, .int .i64 slot, .bool op], .slice (some ⟨bf, of, none⟩) 2 cf, .int .i64 0] w
      fun e w' => e = .returned (.agg #[.int .i64 (p - 2 * f), .int .i64 1]) ∧ Below w.heap.size w w' := by
  have d1 : ((w.alloc (.cells #[.int .i64 tab, .slice (some ⟨b1, o1, none⟩) 4 c1, .int .i64 h, .slice a2 n2 c2, .slice a3 n3 c3, .int .i64 slot, .bool op] 115)).alloc (.cells #[.int .i64 0, .int .i64 0] 133)).cell? ⟨w.heap.size, 1, none⟩ = some (.slice (some ⟨b1, o1, none⟩) 4 c1) := by simp
  have d2 : ((w.alloc (.cells #[.int .i64 tab, .slice (some ⟨b1, o1, none⟩) 4 c1, .int .i64 h, .slice a2 n2 c2, .slice a3 n3 c3, .int .i64 slot, .bool op] 115)).alloc (.cells #[.int .i64 0, .int .i64 0] 133)).cell? ⟨b1, o1 + 1, none⟩ = some (.int .i64 p) := by rw [← h1]; exact ((balloc (balloc1 w _) _).cell (p := ⟨b1, o1 + 1, none⟩) l1)
  have d3 : ((w.alloc (.cells #[.int .i64 tab, .slice (some ⟨b1, o1, none⟩) 4 c1, .int .i64 h, .slice a2 n2 c2, .slice a3 n3 c3, .int .i64 slot, .bool op] 115)).alloc (.cells #[.int .i64 0, .int .i64 0] 133)).cell? ⟨bf, of, none⟩ = some (.int .i64 f) := by rw [← h2]; exact ((balloc (balloc1 w _) _).cell (p := ⟨bf, of, none⟩) l2)
  have w0 : IntKind.i64.wrap (1 : Int) = 1 := by decide
  have w1 : IntKind.i64.wrap ((1 : Int) - 0) = 1 := by decide
  have w2 : IntKind.i64.wrap (2 * f) = 2 * f := IntWalk.i64_in _ (by omega)
  have w3 : IntKind.i64.wrap (p - 2 * f) = p - 2 * f := IntWalk.i64_in _ (by omega)
  clear r1 r2 r3 r4 h1 h2
  go_enter Try.func85, Try.ntmps85
  go_wp2_with fail
  go_region
  go_wp2
  exact bodyPost_ret (v := .agg #[.int .i64 (p - 2 * f), .int .i64 1]) (by simp [results, Try.results85, go_sem]) rfl ⟨rfl, ((balloc (balloc1 w _) _).drew)⟩
set_option maxHeartbeats 1000000 in
theorem gap1 (tab h slot : Int) (op : Bool) (b1 o1 c1 : Nat) (a2 a3 : Option Addr) (n2 c2 n3 c3 bf of cf : Nat) (p f : Int) (w : World)
    (h1 : w.cell? ⟨b1, o1, none⟩ = some (.int .i64 p)) (h2 : w.cell? ⟨bf, of + 1, none⟩ = some (.int .i64 f)) (l1 : b1 < w.heap.size) (l2 : bf < w.heap.size) (r1 : 0 ≤ p) (r2 : p ≤ 3000) (r3 : 0 ≤ f) (r4 : f ≤ 3000) :
    Calls Try.prog 85 #[.agg #[.int .i64 tab, .slice (some ⟨b1, o1, none⟩) 4 c1, .int .i64 h, .slice a2 n2 c2, .slice a3 n3 c3, .int .i64 slot, .bool op], .slice (some ⟨bf, of, none⟩) 2 cf, .int .i64 1] w
      fun e w' => e = .returned (.agg #[.int .i64 (p - 2 * f), .int .i64 1]) ∧ Below w.heap.size w w' := by
  have d1 : ((w.alloc (.cells #[.int .i64 tab, .slice (some ⟨b1, o1, none⟩) 4 c1, .int .i64 h, .slice a2 n2 c2, .slice a3 n3 c3, .int .i64 slot, .bool op] 115)).alloc (.cells #[.int .i64 0, .int .i64 0] 133)).cell? ⟨w.heap.size, 1, none⟩ = some (.slice (some ⟨b1, o1, none⟩) 4 c1) := by simp
  have d2 : ((w.alloc (.cells #[.int .i64 tab, .slice (some ⟨b1, o1, none⟩) 4 c1, .int .i64 h, .slice a2 n2 c2, .slice a3 n3 c3, .int .i64 slot, .bool op] 115)).alloc (.cells #[.int .i64 0, .int .i64 0] 133)).cell? ⟨b1, o1, none⟩ = some (.int .i64 p) := by rw [← h1]; exact ((balloc (balloc1 w _) _).cell (p := ⟨b1, o1, none⟩) l1)
  have d3 : ((w.alloc (.cells #[.int .i64 tab, .slice (some ⟨b1, o1, none⟩) 4 c1, .int .i64 h, .slice a2 n2 c2, .slice a3 n3 c3, .int .i64 slot, .bool op] 115)).alloc (.cells #[.int .i64 0, .int .i64 0] 133)).cell? ⟨bf, of + 1, none⟩ = some (.int .i64 f) := by rw [← h2]; exact ((balloc (balloc1 w _) _).cell (p := ⟨bf, of + 1, none⟩) l2)
  have w0 : IntKind.i64.wrap (1 : Int) = 1 := by decide
  have w1 : IntKind.i64.wrap ((1 : Int) - 1) = 0 := by decide
  have w2 : IntKind.i64.wrap (2 * f) = 2 * f := IntWalk.i64_in _ (by omega)
  have w3 : IntKind.i64.wrap (p - 2 * f) = p - 2 * f := IntWalk.i64_in _ (by omega)
  clear r1 r2 r3 r4 h1 h2
  go_enter Try.func85, Try.ntmps85
  go_wp2_with fail
  go_region
  go_wp2
  exact bodyPost_ret (v := .agg #[.int .i64 (p - 2 * f), .int .i64 1]) (by simp [results, Try.results85, go_sem]) rfl ⟨rfl, ((balloc (balloc1 w _) _).drew)⟩
/-- What measures returns. -/
def measOf (p0 p1 p2 p3 h t0 t1 u0 u1 : Int) (op : Bool) : List (Int × Int) :=
  [(p0, 1), (p1, 1), (p2, 1), (p3, 1), (h, foldsOf op), (p1 - 2 * t0, 1), (p0 - 2 * t1, 1), (p1 - 2 * u0, 1), (p0 - 2 * u1, 1)]
/-- A new slice of pairs. -/
def NewPp (l : List (Int × Int)) (w : World) (e : Ending) (w' : World) : Prop :=
  ∃ g cap, e = .returned (.slice (some ⟨g, 0, none⟩) l.length cap) ∧ Pp w' (some ⟨g, 0, none⟩) l.length cap l ∧ Below w.heap.size w w'
theorem Try.info133x : (Try.prog.info? 133).map (fun i => (i.zero, i.size, i.bytes)) = some (some (.agg #[.int .i64 0, .int .i64 0]), 2, 16) := by kernel_rfl
theorem block_new {w : World} {o : Obj} {g : Nat} (hg : g = w.heap.size) : (w.alloc o).heap[g]? = some o := by
  subst hg; exact heap_alloc_new w o
theorem own_below {w w' : World} {base : Nat} {e : TypeId} {size : Nat} {v : Value} {n : Nat} {xs : List Value} (h : w.ownsRow base e size v n xs) (hb : Below w.heap.size w w') : w'.ownsRow base e size v n xs := by
  refine ⟨h.1, ?_⟩
  rcases h.2 with h2 | ⟨g, cap, cur, hv, hg, hh, r⟩
  · exact .inl h2
  · have hlt : g < w.heap.size := by
      rcases Nat.lt_or_ge g w.heap.size with h' | h'
      · exact h'
      · rw [Array.getElem?_eq_none h'] at hh; cases hh
    exact .inr ⟨g, cap, cur, hv, hg, (hb.block g hlt).trans hh, r⟩
theorem size_ok {w W : World} {o o' : Obj} (h : Below (w.alloc o).heap.size (w.alloc o) W) : w.heap.size + 1 ≤ (W.alloc o').heap.size := by
  have := h.size
  simp at this ⊢
  omega
theorem own_ge1 {w W : World} {o : Obj} {e : TypeId} {size : Nat} {v : Value} {n : Nat} {xs : List Value} (h : W.ownsRow (w.heap.size + 1) e size v n xs) : ∀ k, v.ownBlock = some k → (w.alloc o).heap.size ≤ k := by
  intro k hk
  have := own_ge h k hk
  simp
  omega
theorem owns_pp {w : World} {base e g n cap : Nat} {xs : List (Int × Int)} (h : w.ownsRow base e 2 (.slice (some ⟨g, 0, none⟩) n cap) n (xs.flatMap fun x => [Value.int .i64 x.1, Value.int .i64 x.2])) : Pp w (some ⟨g, 0, none⟩) n cap xs := by
  have hl : xs.length = n := by have := h.1; rw [flat_length] at this; omega
  have hc := fun j hj => h.cellAt j hj
  rcases h.2 with ⟨h', _⟩ | ⟨g', cap', cur, h', _, hg, hnc, hcm, _, _⟩
  · simp at h'
  · simp only [Value.slice.injEq, Option.some.injEq, Addr.mk.injEq, and_true, true_and] at h'
    obtain ⟨rfl, rfl⟩ := h'
    refine ⟨hl.symm, hnc, hcm, by simp, .inr ⟨g, 0, rfl, ?_, fun i hi => ?_⟩⟩
    · rcases Nat.lt_or_ge g w.heap.size with h' | h'
      · exact h'
      · rw [Array.getElem?_eq_none h'] at hg; cases hg
    · have hi' : i < n * 2 := by rw [flat_length] at hi; omega
      have := hc i hi'
      rw [Nat.zero_add, this]
      simp only [List.getD_eq_getElem?_getD]
      rw [List.getElem?_eq_getElem hi]
      rfl
set_option maxRecDepth 100000 in
set_option maxHeartbeats 8000000 in
theorem measures_any (tab p0 p1 p2 p3 h t0 t1 u0 u1 slot : Int) (op : Bool) (b1 o1 c1 b2 o2 c2 b3 o3 c3 : Nat) (w : World)
    (hp : ∀ i, i < 4 → w.cell? ⟨b1, o1 + i, none⟩ = some (.int .i64 ([p0, p1, p2, p3].getD i 0))) (ht : ∀ i, i < 2 → w.cell? ⟨b2, o2 + i, none⟩ = some (.int .i64 ([t0, t1].getD i 0))) (hu : ∀ i, i < 2 → w.cell? ⟨b3, o3 + i, none⟩ = some (.int .i64 ([u0, u1].getD i 0)))
    (l1 : b1 < w.heap.size) (l2 : b2 < w.heap.size) (l3 : b3 < w.heap.size)
    (r0 : 0 ≤ p0 ∧ p0 ≤ 3000) (r1 : 0 ≤ p1 ∧ p1 ≤ 3000) (s0 : 0 ≤ t0 ∧ t0 ≤ 3000) (s1 : 0 ≤ t1 ∧ t1 ≤ 3000) (q0 : 0 ≤ u0 ∧ u0 ≤ 3000) (q1 : 0 ≤ u1 ∧ u1 ≤ 3000) :
    Calls Try.prog 69 #[.agg #[.int .i64 tab, .slice (some ⟨b1, o1, none⟩) 4 c1, .int .i64 h, .slice (some ⟨b2, o2, none⟩) 2 c2, .slice (some ⟨b3, o3, none⟩) 2 c3, .int .i64 slot, .bool op]] w (NewPp (measOf p0 p1 p2 p3 h t0 t1 u0 u1 op) w) := by
  obtain ⟨i0, hi, hz0, hz1, hz2⟩ := info_parts Try.info133x
  have HP := Lib.hid hp; have HT := Lib.hid ht; have HU := Lib.hid hu
  have R := Lib.hid (And.intro r0 (And.intro r1 (And.intro s0 (And.intro s1 (And.intro q0 q1)))))
  have hw0 := balloc1 w (.cells #[.int .i64 tab, .slice (some ⟨b1, o1, none⟩) 4 c1, .int .i64 h, .slice (some ⟨b2, o2, none⟩) 2 c2, .slice (some ⟨b3, o3, none⟩) 2 c3, .int .i64 slot, .bool op] 115)
  have hb0 : Below (w.alloc (.cells #[.int .i64 tab, .slice (some ⟨b1, o1, none⟩) 4 c1, .int .i64 h, .slice (some ⟨b2, o2, none⟩) 2 c2, .slice (some ⟨b3, o3, none⟩) 2 c3, .int .i64 slot, .bool op] 115)).heap.size (w.alloc (.cells #[.int .i64 tab, .slice (some ⟨b1, o1, none⟩) 4 c1, .int .i64 h, .slice (some ⟨b2, o2, none⟩) 2 c2, .slice (some ⟨b3, o3, none⟩) 2 c3, .int .i64 slot, .bool op] 115)) (w.alloc (.cells #[.int .i64 tab, .slice (some ⟨b1, o1, none⟩) 4 c1, .int .i64 h, .slice (some ⟨b2, o2, none⟩) 2 c2, .slice (some ⟨b3, o3, none⟩) 2 c3, .int .i64 slot, .bool op] 115)) := Below.refl _ _
  clear hp ht hu r0 r1 s0 s1 q0 q1
  have k0 : ∀ a b w, (Instr.index 144 (.agg #[a, b]) (.int .i64 0)).run Try.prog w = .ok a w := fun _ _ _ => by kernel_rfl
  have k1 : ∀ a b w, (Instr.index 144 (.agg #[a, b]) (.int .i64 1)).run Try.prog w = .ok b w := fun _ _ _ => by kernel_rfl
  have K0 := Lib.hid k0; have K1 := Lib.hid k1
  clear k0 k1
  have x0 := (hw0.cell (p := ⟨b1, o1, none⟩) l1).trans (HP.out 0 (by omega))
  simp only [List.getD_cons_zero] at x0
  go_enter Try.func69, Try.ntmps69
  go_wp2
  refine wp_loop_rounds 5 ?_
  rw [rounds_succ]
  go_wp2_with (at_builtin; refine wpList_append_lies _ rfl (.tmp 16) (.tmp 19) 130 rfl (w.heap.size + 1) 133 i0 _ 2 16 Try.underlying130 hi hz0 hz1 hz2 rfl (by omega) _ 0 _ rfl (World.ownsRow_nil _ _ _ _) ⟨w.heap.size + 1, 0, none⟩ 1 1 [.int .i64 p0, .int .i64 1] rfl rfl (World.news_of_block (fr := (0, 0)) (t := 133) (cs := #[.int .i64 p0, .int .i64 1]) (block_new (by simp))) (by simp [Value.oneCell']) (by omega) (by decide) (by decide) (size_ok hb0) _ rfl ?_; intro g1 cap1 w1 hown1 hgrow1 _ hlt1)
  have hb1 : Below (w.alloc (.cells #[.int .i64 tab, .slice (some ⟨b1, o1, none⟩) 4 c1, .int .i64 h, .slice (some ⟨b2, o2, none⟩) 2 c2, .slice (some ⟨b3, o3, none⟩) 2 c3, .int .i64 slot, .bool op] 115)).heap.size (w.alloc (.cells #[.int .i64 tab, .slice (some ⟨b1, o1, none⟩) 4 c1, .int .i64 h, .slice (some ⟨b2, o2, none⟩) 2 c2, .slice (some ⟨b3, o3, none⟩) 2 c3, .int .i64 slot, .bool op] 115)) w1 := (balloc hb0 _).grown hgrow1 (balloc hb0 _).size (by intro k hk; cases hk)
  clear hgrow1
  have x1 := ((bnext hw0 hb1).cell (p := ⟨b1, o1 + 1, none⟩) l1).trans (HP.out 1 (by omega))
  simp only [List.getD_cons_zero, List.getD_cons_succ] at x1
  clear x0
  go_wp2
  rw [rounds_succ]
  go_wp2_with (at_builtin; refine wpList_append_lies _ rfl (.tmp 16) (.tmp 19) 130 rfl (w.heap.size + 1) 133 i0 _ 2 16 Try.underlying130 hi hz0 hz1 hz2 rfl (by omega) _ 1 _ rfl (hown1.alloc _) ⟨w1.heap.size, 0, none⟩ 1 1 [.int .i64 p1, .int .i64 1] rfl rfl (World.news_of_block (fr := (0, 0)) (t := 133) (cs := #[.int .i64 p1, .int .i64 1]) (block_new (by simp))) (by simp [Value.oneCell']) (by omega) (by decide) (by decide) (size_ok hb1) _ rfl ?_; intro g2 cap2 w2 hown2 hgrow2 _ hlt2)
  have hb2 : Below (w.alloc (.cells #[.int .i64 tab, .slice (some ⟨b1, o1, none⟩) 4 c1, .int .i64 h, .slice (some ⟨b2, o2, none⟩) 2 c2, .slice (some ⟨b3, o3, none⟩) 2 c3, .int .i64 slot, .bool op] 115)).heap.size (w.alloc (.cells #[.int .i64 tab, .slice (some ⟨b1, o1, none⟩) 4 c1, .int .i64 h, .slice (some ⟨b2, o2, none⟩) 2 c2, .slice (some ⟨b3, o3, none⟩) 2 c3, .int .i64 slot, .bool op] 115)) w2 := (balloc hb1 _).grown hgrow2 (balloc hb1 _).size (own_ge1 hown1)
  clear hgrow2
  have x2 := ((bnext hw0 hb2).cell (p := ⟨b1, o1 + 2, none⟩) l1).trans (HP.out 2 (by omega))
  simp only [List.getD_cons_zero, List.getD_cons_succ] at x2
  clear x1
  go_wp2
  rw [rounds_succ]
  go_wp2_with (at_builtin; refine wpList_append_lies _ rfl (.tmp 16) (.tmp 19) 130 rfl (w.heap.size + 1) 133 i0 _ 2 16 Try.underlying130 hi hz0 hz1 hz2 rfl (by omega) _ 2 _ rfl (hown2.alloc _) ⟨w2.heap.size, 0, none⟩ 1 1 [.int .i64 p2, .int .i64 1] rfl rfl (World.news_of_block (fr := (0, 0)) (t := 133) (cs := #[.int .i64 p2, .int .i64 1]) (block_new (by simp))) (by simp [Value.oneCell']) (by omega) (by decide) (by decide) (size_ok hb2) _ rfl ?_; intro g3 cap3 w3 hown3 hgrow3 _ hlt3)
  have hb3 : Below (w.alloc (.cells #[.int .i64 tab, .slice (some ⟨b1, o1, none⟩) 4 c1, .int .i64 h, .slice (some ⟨b2, o2, none⟩) 2 c2, .slice (some ⟨b3, o3, none⟩) 2 c3, .int .i64 slot, .bool op] 115)).heap.size (w.alloc (.cells #[.int .i64 tab, .slice (some ⟨b1, o1, none⟩) 4 c1, .int .i64 h, .slice (some ⟨b2, o2, none⟩) 2 c2, .slice (some ⟨b3, o3, none⟩) 2 c3, .int .i64 slot, .bool op] 115)) w3 := (balloc hb2 _).grown hgrow3 (balloc hb2 _).size (own_ge1 hown2)
  clear hgrow3
  have x3 := ((bnext hw0 hb3).cell (p := ⟨b1, o1 + 3, none⟩) l1).trans (HP.out 3 (by omega))
  simp only [List.getD_cons_zero, List.getD_cons_succ] at x3
  clear x2
  go_wp2
  rw [rounds_succ]
  go_wp2_with (at_builtin; refine wpList_append_lies _ rfl (.tmp 16) (.tmp 19) 130 rfl (w.heap.size + 1) 133 i0 _ 2 16 Try.underlying130 hi hz0 hz1 hz2 rfl (by omega) _ 3 _ rfl (hown3.alloc _) ⟨w3.heap.size, 0, none⟩ 1 1 [.int .i64 p3, .int .i64 1] rfl rfl (World.news_of_block (fr := (0, 0)) (t := 133) (cs := #[.int .i64 p3, .int .i64 1]) (block_new (by simp))) (by simp [Value.oneCell']) (by omega) (by decide) (by decide) (size_ok hb3) _ rfl ?_; intro g4 cap4 w4 hown4 hgrow4 _ hlt4)
  have hb4 : Below (w.alloc (.cells #[.int .i64 tab, .slice (some ⟨b1, o1, none⟩) 4 c1, .int .i64 h, .slice (some ⟨b2, o2, none⟩) 2 c2, .slice (some ⟨b3, o3, none⟩) 2 c3, .int .i64 slot, .bool op] 115)).heap.size (w.alloc (.cells #[.int .i64 tab, .slice (some ⟨b1, o1, none⟩) 4 c1, .int .i64 h, .slice (some ⟨b2, o2, none⟩) 2 c2, .slice (some ⟨b3, o3, none⟩) 2 c3, .int .i64 slot, .bool op] 115)) w4 := (balloc hb3 _).grown hgrow4 (balloc hb3 _).size (own_ge1 hown3)
  clear hgrow4
  clear x3
  go_wp2
  rw [rounds_succ]
  have hc4 := box_cell hb4
  go_wp2_with fail
  go_region_held3 (fun w' => w'.cell? ⟨w.heap.size, 0, none⟩ = some (.int .i64 tab) ∧ w'.cell? ⟨w.heap.size, 1, none⟩ = some (.slice (some ⟨b1, o1, none⟩) 4 c1) ∧ w'.cell? ⟨w.heap.size, 2, none⟩ = some (.int .i64 h) ∧ w'.cell? ⟨w.heap.size, 3, none⟩ = some (.slice (some ⟨b2, o2, none⟩) 2 c2) ∧ w'.cell? ⟨w.heap.size, 4, none⟩ = some (.slice (some ⟨b3, o3, none⟩) 2 c3) ∧ w'.cell? ⟨w.heap.size, 5, none⟩ = some (.int .i64 slot) ∧ w'.cell? ⟨w.heap.size, 6, none⟩ = some (.bool op)) (first | go_keep | (simp [hc5]; done) | (simp [hc6]; done))
    (first
      | (go_at_call 84; refine (folds_any _ _ _ _ _ _ op _).mono ?_; rintro e w5 ⟨rfl, hx⟩; have hb5 : Below (w.alloc (.cells #[.int .i64 tab, .slice (some ⟨b1, o1, none⟩) 4 c1, .int .i64 h, .slice (some ⟨b2, o2, none⟩) 2 c2, .slice (some ⟨b3, o3, none⟩) 2 c3, .int .i64 slot, .bool op] 115)).heap.size (w.alloc (.cells #[.int .i64 tab, .slice (some ⟨b1, o1, none⟩) 4 c1, .int .i64 h, .slice (some ⟨b2, o2, none⟩) 2 c2, .slice (some ⟨b3, o3, none⟩) 2 c3, .int .i64 slot, .bool op] 115)) w5 := bnext hb4.drew hx; have hc5 := box_cell hb5; have hown5 := own_below hown4.drew hx)
      | (refine step_append_lies _ (by rfl) _ _ _ (by rfl) (w.heap.size + 1) 133 i0 _ 2 16 Try.underlying130 hi hz0 hz1 hz2 rfl (by omega) _ 4 _ (by rfl) (hown5.alloc _) ⟨w5.heap.size, 0, none⟩ 1 1 [.int .i64 h, .int .i64 (foldsOf op)] (by rfl) (by rfl) (World.news_of_block (fr := (0, 0)) (t := 133) (cs := #[.int .i64 h, .int .i64 (foldsOf op)]) (block_new (by simp))) (by simp [Value.oneCell']) (by omega) (by decide) (by decide) (size_ok hb5) _ rfl ?_; intro g6 cap6 w6 hown6 hgrow6 _ hlt6; have hb6 : Below (w.alloc (.cells #[.int .i64 tab, .slice (some ⟨b1, o1, none⟩) 4 c1, .int .i64 h, .slice (some ⟨b2, o2, none⟩) 2 c2, .slice (some ⟨b3, o3, none⟩) 2 c3, .int .i64 slot, .bool op] 115)).heap.size (w.alloc (.cells #[.int .i64 tab, .slice (some ⟨b1, o1, none⟩) 4 c1, .int .i64 h, .slice (some ⟨b2, o2, none⟩) 2 c2, .slice (some ⟨b3, o3, none⟩) 2 c3, .int .i64 slot, .bool op] 115)) w6 := (balloc hb5 _).grown hgrow6 (balloc hb5 _).size (own_ge1 hown5); have hc6 := box_cell hb6))
  clear hc4 hc5
  have k0 := K0.out (.slice (some ⟨b2, o2, none⟩) 2 c2) (.slice (some ⟨b3, o3, none⟩) 2 c3)
  have k1 := K1.out (.slice (some ⟨b2, o2, none⟩) 2 c2) (.slice (some ⟨b3, o3, none⟩) 2 c3)
  go_wp2
  refine wp_loop_rounds 3 ?_
  rw [rounds_succ]
  go_wp2
  refine wp_loop_rounds 3 ?_
  rw [rounds_succ]
  go_wp2_with fail
  refine (gap0 tab h slot op b1 o1 c1 _ _ 2 c2 2 c3 b2 o2 c2 p1 t0 _ (by simpa using ((bnext hw0 hb6).cell (p := ⟨b1, o1 + 1, none⟩) l1).trans (HP.out 1 (by omega))) (by simpa using ((bnext hw0 hb6).cell (p := ⟨b2, o2 + 0, none⟩) l2).trans (HT.out 0 (by omega))) (Nat.lt_of_lt_of_le l1 (bnext hw0 hb6).size) (Nat.lt_of_lt_of_le l2 (bnext hw0 hb6).size) R.out.2.1.1 R.out.2.1.2 R.out.2.2.1.1 R.out.2.2.1.2).mono ?_
  rintro e w7 ⟨rfl, hx⟩
  have hb7 : Below (w.alloc (.cells #[.int .i64 tab, .slice (some ⟨b1, o1, none⟩) 4 c1, .int .i64 h, .slice (some ⟨b2, o2, none⟩) 2 c2, .slice (some ⟨b3, o3, none⟩) 2 c3, .int .i64 slot, .bool op] 115)).heap.size (w.alloc (.cells #[.int .i64 tab, .slice (some ⟨b1, o1, none⟩) 4 c1, .int .i64 h, .slice (some ⟨b2, o2, none⟩) 2 c2, .slice (some ⟨b3, o3, none⟩) 2 c3, .int .i64 slot, .bool op] 115)) w7 := bnext hb6 hx
  have hown7 := own_below hown6 hx
  clear hx hc6
  go_wp2_with (at_builtin; refine wpList_append_lies _ rfl (.tmp 44) (.tmp 49) 130 rfl (w.heap.size + 1) 133 i0 _ 2 16 Try.underlying130 hi hz0 hz1 hz2 rfl (by omega) _ 5 _ rfl (hown7.alloc _) ⟨w7.heap.size, 0, none⟩ 1 1 [.int .i64 (p1 - 2 * t0), .int .i64 1] rfl rfl (World.news_of_block (fr := (0, 0)) (t := 133) (cs := #[.int .i64 (p1 - 2 * t0), .int .i64 1]) (block_new (by simp))) (by simp [Value.oneCell']) (by omega) (by decide) (by decide) (size_ok hb7) _ rfl ?_; intro g8 cap8 w8 hown8 hgrow8 _ hlt8)
  have hb8 : Below (w.alloc (.cells #[.int .i64 tab, .slice (some ⟨b1, o1, none⟩) 4 c1, .int .i64 h, .slice (some ⟨b2, o2, none⟩) 2 c2, .slice (some ⟨b3, o3, none⟩) 2 c3, .int .i64 slot, .bool op] 115)).heap.size (w.alloc (.cells #[.int .i64 tab, .slice (some ⟨b1, o1, none⟩) 4 c1, .int .i64 h, .slice (some ⟨b2, o2, none⟩) 2 c2, .slice (some ⟨b3, o3, none⟩) 2 c3, .int .i64 slot, .bool op] 115)) w8 := (balloc hb7 _).grown hgrow8 (balloc hb7 _).size (own_ge1 hown7)
  clear hgrow8
  have hc8 := box_cell hb8
  go_wp2
  rw [rounds_succ]
  go_wp2_with fail
  refine (gap1 tab h slot op b1 o1 c1 _ _ 2 c2 2 c3 b2 o2 c2 p0 t1 _ (by simpa using ((bnext hw0 hb8).cell (p := ⟨b1, o1 + 0, none⟩) l1).trans (HP.out 0 (by omega))) (by simpa using ((bnext hw0 hb8).cell (p := ⟨b2, o2 + 1, none⟩) l2).trans (HT.out 1 (by omega))) (Nat.lt_of_lt_of_le l1 (bnext hw0 hb8).size) (Nat.lt_of_lt_of_le l2 (bnext hw0 hb8).size) R.out.1.1 R.out.1.2 R.out.2.2.2.1.1 R.out.2.2.2.1.2).mono ?_
  rintro e w9 ⟨rfl, hx⟩
  have hb9 : Below (w.alloc (.cells #[.int .i64 tab, .slice (some ⟨b1, o1, none⟩) 4 c1, .int .i64 h, .slice (some ⟨b2, o2, none⟩) 2 c2, .slice (some ⟨b3, o3, none⟩) 2 c3, .int .i64 slot, .bool op] 115)).heap.size (w.alloc (.cells #[.int .i64 tab, .slice (some ⟨b1, o1, none⟩) 4 c1, .int .i64 h, .slice (some ⟨b2, o2, none⟩) 2 c2, .slice (some ⟨b3, o3, none⟩) 2 c3, .int .i64 slot, .bool op] 115)) w9 := bnext hb8 hx
  have hown9 := own_below hown8 hx
  clear hx hc8
  go_wp2_with (at_builtin; refine wpList_append_lies _ rfl (.tmp 44) (.tmp 49) 130 rfl (w.heap.size + 1) 133 i0 _ 2 16 Try.underlying130 hi hz0 hz1 hz2 rfl (by omega) _ 6 _ rfl (hown9.alloc _) ⟨w9.heap.size, 0, none⟩ 1 1 [.int .i64 (p0 - 2 * t1), .int .i64 1] rfl rfl (World.news_of_block (fr := (0, 0)) (t := 133) (cs := #[.int .i64 (p0 - 2 * t1), .int .i64 1]) (block_new (by simp))) (by simp [Value.oneCell']) (by omega) (by decide) (by decide) (size_ok hb9) _ rfl ?_; intro g10 cap10 w10 hown10 hgrow10 _ hlt10)
  have hb10 : Below (w.alloc (.cells #[.int .i64 tab, .slice (some ⟨b1, o1, none⟩) 4 c1, .int .i64 h, .slice (some ⟨b2, o2, none⟩) 2 c2, .slice (some ⟨b3, o3, none⟩) 2 c3, .int .i64 slot, .bool op] 115)).heap.size (w.alloc (.cells #[.int .i64 tab, .slice (some ⟨b1, o1, none⟩) 4 c1, .int .i64 h, .slice (some ⟨b2, o2, none⟩) 2 c2, .slice (some ⟨b3, o3, none⟩) 2 c3, .int .i64 slot, .bool op] 115)) w10 := (balloc hb9 _).grown hgrow10 (balloc hb9 _).size (own_ge1 hown9)
  clear hgrow10
  have hc10 := box_cell hb10
  go_wp2
  rw [rounds_succ]
  go_wp2
  rw [rounds_succ]
  go_wp2
  refine wp_loop_rounds 3 ?_
  rw [rounds_succ]
  go_wp2_with fail
  refine (gap0 tab h slot op b1 o1 c1 _ _ 2 c2 2 c3 b3 o3 c3 p1 u0 _ (by simpa using ((bnext hw0 hb10).cell (p := ⟨b1, o1 + 1, none⟩) l1).trans (HP.out 1 (by omega))) (by simpa using ((bnext hw0 hb10).cell (p := ⟨b3, o3 + 0, none⟩) l3).trans (HU.out 0 (by omega))) (Nat.lt_of_lt_of_le l1 (bnext hw0 hb10).size) (Nat.lt_of_lt_of_le l3 (bnext hw0 hb10).size) R.out.2.1.1 R.out.2.1.2 R.out.2.2.2.2.1.1 R.out.2.2.2.2.1.2).mono ?_
  rintro e w11 ⟨rfl, hx⟩
  have hb11 : Below (w.alloc (.cells #[.int .i64 tab, .slice (some ⟨b1, o1, none⟩) 4 c1, .int .i64 h, .slice (some ⟨b2, o2, none⟩) 2 c2, .slice (some ⟨b3, o3, none⟩) 2 c3, .int .i64 slot, .bool op] 115)).heap.size (w.alloc (.cells #[.int .i64 tab, .slice (some ⟨b1, o1, none⟩) 4 c1, .int .i64 h, .slice (some ⟨b2, o2, none⟩) 2 c2, .slice (some ⟨b3, o3, none⟩) 2 c3, .int .i64 slot, .bool op] 115)) w11 := bnext hb10 hx
  have hown11 := own_below hown10 hx
  clear hx hc10
  go_wp2_with (at_builtin; refine wpList_append_lies _ rfl (.tmp 44) (.tmp 49) 130 rfl (w.heap.size + 1) 133 i0 _ 2 16 Try.underlying130 hi hz0 hz1 hz2 rfl (by omega) _ 7 _ rfl (hown11.alloc _) ⟨w11.heap.size, 0, none⟩ 1 1 [.int .i64 (p1 - 2 * u0), .int .i64 1] rfl rfl (World.news_of_block (fr := (0, 0)) (t := 133) (cs := #[.int .i64 (p1 - 2 * u0), .int .i64 1]) (block_new (by simp))) (by simp [Value.oneCell']) (by omega) (by decide) (by decide) (size_ok hb11) _ rfl ?_; intro g12 cap12 w12 hown12 hgrow12 _ hlt12)
  have hb12 : Below (w.alloc (.cells #[.int .i64 tab, .slice (some ⟨b1, o1, none⟩) 4 c1, .int .i64 h, .slice (some ⟨b2, o2, none⟩) 2 c2, .slice (some ⟨b3, o3, none⟩) 2 c3, .int .i64 slot, .bool op] 115)).heap.size (w.alloc (.cells #[.int .i64 tab, .slice (some ⟨b1, o1, none⟩) 4 c1, .int .i64 h, .slice (some ⟨b2, o2, none⟩) 2 c2, .slice (some ⟨b3, o3, none⟩) 2 c3, .int .i64 slot, .bool op] 115)) w12 := (balloc hb11 _).grown hgrow12 (balloc hb11 _).size (own_ge1 hown11)
  clear hgrow12
  have hc12 := box_cell hb12
  go_wp2
  rw [rounds_succ]
  go_wp2_with fail
  refine (gap1 tab h slot op b1 o1 c1 _ _ 2 c2 2 c3 b3 o3 c3 p0 u1 _ (by simpa using ((bnext hw0 hb12).cell (p := ⟨b1, o1 + 0, none⟩) l1).trans (HP.out 0 (by omega))) (by simpa using ((bnext hw0 hb12).cell (p := ⟨b3, o3 + 1, none⟩) l3).trans (HU.out 1 (by omega))) (Nat.lt_of_lt_of_le l1 (bnext hw0 hb12).size) (Nat.lt_of_lt_of_le l3 (bnext hw0 hb12).size) R.out.1.1 R.out.1.2 R.out.2.2.2.2.2.1 R.out.2.2.2.2.2.2).mono ?_
  rintro e w13 ⟨rfl, hx⟩
  have hb13 : Below (w.alloc (.cells #[.int .i64 tab, .slice (some ⟨b1, o1, none⟩) 4 c1, .int .i64 h, .slice (some ⟨b2, o2, none⟩) 2 c2, .slice (some ⟨b3, o3, none⟩) 2 c3, .int .i64 slot, .bool op] 115)).heap.size (w.alloc (.cells #[.int .i64 tab, .slice (some ⟨b1, o1, none⟩) 4 c1, .int .i64 h, .slice (some ⟨b2, o2, none⟩) 2 c2, .slice (some ⟨b3, o3, none⟩) 2 c3, .int .i64 slot, .bool op] 115)) w13 := bnext hb12 hx
  have hown13 := own_below hown12 hx
  clear hx hc12
  go_wp2_with (at_builtin; refine wpList_append_lies _ rfl (.tmp 44) (.tmp 49) 130 rfl (w.heap.size + 1) 133 i0 _ 2 16 Try.underlying130 hi hz0 hz1 hz2 rfl (by omega) _ 8 _ rfl (hown13.alloc _) ⟨w13.heap.size, 0, none⟩ 1 1 [.int .i64 (p0 - 2 * u1), .int .i64 1] rfl rfl (World.news_of_block (fr := (0, 0)) (t := 133) (cs := #[.int .i64 (p0 - 2 * u1), .int .i64 1]) (block_new (by simp))) (by simp [Value.oneCell']) (by omega) (by decide) (by decide) (size_ok hb13) _ rfl ?_; intro g14 cap14 w14 hown14 hgrow14 _ hlt14)
  have hb14 : Below (w.alloc (.cells #[.int .i64 tab, .slice (some ⟨b1, o1, none⟩) 4 c1, .int .i64 h, .slice (some ⟨b2, o2, none⟩) 2 c2, .slice (some ⟨b3, o3, none⟩) 2 c3, .int .i64 slot, .bool op] 115)).heap.size (w.alloc (.cells #[.int .i64 tab, .slice (some ⟨b1, o1, none⟩) 4 c1, .int .i64 h, .slice (some ⟨b2, o2, none⟩) 2 c2, .slice (some ⟨b3, o3, none⟩) 2 c3, .int .i64 slot, .bool op] 115)) w14 := (balloc hb13 _).grown hgrow14 (balloc hb13 _).size (own_ge1 hown13)
  clear hgrow14
  have hc14 := box_cell hb14
  go_wp2
  rw [rounds_succ]
  go_wp2
  rw [rounds_succ]
  go_wp2
  go_ret
  exact ⟨g14, cap14, rfl, owns_pp (xs := measOf p0 p1 p2 p3 h t0 t1 u0 u1 op) hown14, bnext hw0 hb14⟩
end Go.Proofs.Ytnhipdbdolabkaa
namespace Go.Proofs.Ytnhipdbdolabkaa
open Go.RowKit
/-- What a function value makes of an integer. -/
def Fun1 (g : FuncId) (caps : Array Value) (f : Int → Int) (l : List Int) (w : World) : Prop :=
  ∀ x ∈ l, ∀ w1, Below w.heap.size w w1 → Calls Try.prog g (#[.int .i64 x] ++ caps) w1 fun e w2 => e = .returned (.int .i64 (f x)) ∧ Below w1.heap.size w1 w2
/-- The same, and none of its cells is frozen. -/
def NewOwn (l : List Int) (w : World) (e : Ending) (w' : World) : Prop :=
  ∃ g cap, e = .returned (.slice (some ⟨g, 0, none⟩) l.length cap) ∧ Ii w' (some ⟨g, 0, none⟩) l.length cap l ∧ Below w.heap.size w w' ∧ w.heap.size ≤ g ∧ g < w'.heap.size ∧ ∀ i, w'.frozen? ⟨g, i, none⟩ = false
theorem take_snoc {α : Type} (xs : List α) (k : Nat) (h : k < xs.length) (d : α) : xs.take (k + 1) = xs.take k ++ [xs.getD k d] := by
  rw [List.take_succ_eq_append_getElem h]; simp [List.getD_eq_getElem?_getD, h]
theorem own_lt {w : World} {base : Nat} {e : TypeId} {size g n cap : Nat} {xs : List Value} (h : w.ownsRow base e size (.slice (some ⟨g, 0, none⟩) n cap) n xs) : g < w.heap.size := by
  rcases h.2 with ⟨h', _⟩ | ⟨g', cap', cur, h', _, hg, _⟩
  · simp at h'
  · simp only [Value.slice.injEq, Option.some.injEq, Addr.mk.injEq, and_true, true_and] at h'
    obtain ⟨rfl, rfl⟩ := h'
    rcases Nat.lt_or_ge g w.heap.size with h' | h'
    · exact h'
    · rw [Array.getElem?_eq_none h'] at hg; cases hg
set_option maxHeartbeats 1000000 in
theorem mapped_own (g : FuncId) (hg : ∀ xs w, (callFunc g xs).run Try.prog w = .ok (.enter g xs) w) (caps : Array Value) (f : Int → Int) (a : Option Addr) (n c : Nat) (xs : List Int) (w : World) (h : Ii w a n c xs) (h0 : 0 < xs.length) (hm : xs.length ≤ 1000)
    (hp : Fun1 g caps f xs w) :
    Calls Try.prog 72 #[.slice a n c, .func (.func g) #[] caps] w (NewOwn (xs.map f) w) := by
  obtain ⟨i0, hi, hz0, hz1, hz2⟩ := info_parts Try.info3x
  obtain ⟨b, off, rfl, hb, hc⟩ := h.at h0
  obtain rfl := h.1
  have Hp := Lib.hid hp; have Hc := Lib.hid hc
  clear hp hc h
  go_enter Try.func72, Try.ntmps72
  go_wp2
  go_loopw [4, 6, 9] (fun v _ i wr => ∃ k : Nat, k ≤ xs.length ∧ i = .int .i64 k ∧ wr.ownsRow w.heap.size 3 1 v k (((xs.take k).map f).map (Value.int .i64)) ∧ Below w.heap.size w wr) (fun _ _ i _ => xs.length - (intOf i).toNat)
  case atStart => exact ⟨0, Nat.zero_le _, rfl, World.ownsRow_nil _ _ _ _, Below.refl _ _⟩
  case round =>
    obtain ⟨k, hk, rfl, hown, hbel⟩ := hrel
    have Hown := Lib.hid hown
    clear hown
    by_cases hlt : k < xs.length
    · have hcx := (hbel.cell (p := ⟨b, off + k, none⟩) (by exact hb)).trans (Hc.out k hlt)
      have hmem : xs.getD k 0 ∈ xs := by simp [List.getD_eq_getElem?_getD, hlt]
      have hts := take_snoc xs k hlt 0
      generalize hx : xs.getD k 0 = x at *
      have Hts := Lib.hid hts
      clear hx hts
      have hcall := Lib.hid (Hp.out x hmem wr hbel)
      go_wp2_with (first
        | (at_builtin; refine wpList_append_lies _ rfl (.tmp 13) (.tmp 17) 29 rfl w.heap.size 3 i0 _ 1 8 Try.underlying29 hi hz0 hz1 hz2 rfl (by omega) _ k _ rfl (hown2.alloc _) ⟨w2.heap.size, 0, none⟩ 1 1 [.int .i64 (f x)] rfl rfl (World.news_of_block (fr := (0, 0)) (t := 3) (cs := #[.int .i64 (f x)]) (block_new (by simp))) (by simp [Value.oneCell']) (by omega) (by unfold maxLen; omega) (by omega) (balloc hb2 _).size _ rfl ?_; intro g3 cap3 w3 hown3 hgrow3 _ hlt3)
        | ((with_reducible refine (hcall.out).mono ?_); rintro e w2 ⟨rfl, hx2⟩; have hb2 := bnext hbel hx2; have hown2 := own_below Hown.out hx2))
      have hb3 : Below w.heap.size w w3 := (balloc hb2 _).grown hgrow3 (balloc hb2 _).size (own_ge hown2)
      clear hgrow3 hcx
      go_wp2
      go_roundw
      case rel => exact ⟨k + 1, by omega, by go_num, by rw [Hts.out]; simpa using hown3, hb3⟩
      case measure => simp [intOf]; omega
    · obtain rfl : k = xs.length := by omega
      obtain ⟨g', cap', rfl⟩ := Joins.ownsRow_form Hown.out h0
      go_wp2
      go_ret
      have Ho := Hown.out
      rw [List.take_length] at Ho
      exact ⟨g', cap', by simp, by simpa using owns_ii (xs := xs.map f) Ho, hbel, own_ge Ho g' rfl, own_lt Ho, fun i => Ho.frozenAt i⟩
end Go.Proofs.Ytnhipdbdolabkaa
namespace Go.Proofs.Ytnhipdbdolabkaa
open Go.RowKit
/-- A blank with four panels and two numbers of flaps at each end, all of them lengths. -/
def Fine (b : Bl) : Prop :=
  ∃ p0 p1 p2 p3 t0 t1 u0 u1, b.panels = [p0, p1, p2, p3] ∧ b.top = [t0, t1] ∧ b.bottom = [u0, u1] ∧ (0 ≤ p0 ∧ p0 ≤ 3000) ∧ (0 ≤ p1 ∧ p1 ≤ 3000) ∧ (0 ≤ p2 ∧ p2 ≤ 3000) ∧ (0 ≤ p3 ∧ p3 ≤ 3000) ∧
    (0 ≤ t0 ∧ t0 ≤ 3000) ∧ (0 ≤ t1 ∧ t1 ≤ 3000) ∧ (0 ≤ u0 ∧ u0 ≤ 3000) ∧ (0 ≤ u1 ∧ u1 ≤ 3000) ∧ (0 ≤ b.height ∧ b.height ≤ 3000)
end Go.Proofs.Ytnhipdbdolabkaa
namespace Go.Proofs.Ytnhipdbdolabkaa
open Go.RowKit
theorem within_all {lo hi : Int} {l : List Int} (h : within lo hi l = true) : ∀ x ∈ l, lo ≤ x ∧ x ≤ hi := by
  intro x hx
  simp only [within, Bool.not_eq_true', List.any_eq_false] at h
  have := h x hx
  simp only [Bool.or_eq_true, decide_eq_true_eq, not_or] at this
  omega
theorem fine_of_check {b : Bl} (h : checkErr b = 0) : Fine b ∧ (0 ≤ b.tab ∧ b.tab ≤ 100) ∧ (0 ≤ b.slot ∧ b.slot ≤ 20) ∧ (∀ x ∈ b.panels, 1 ≤ x ∧ x ≤ 3000) ∧ (1 ≤ b.height ∧ b.height ≤ 3000) ∧ (b.isOpen = true → b.top = [0, 0]) := by
  have hl : lensOk b = true := by
    cases e : lensOk b with
    | true => rfl
    | false => simp [checkErr, e] at h
  have hn : numsOk b = true := by
    cases e : numsOk b with
    | true => rfl
    | false => simp [checkErr, e, hl] at h
  have ho : (b.isOpen && !within 0 0 b.top) = false := by
    cases e : (b.isOpen && !within 0 0 b.top) with
    | false => rfl
    | true => simp [checkErr, e, hl, hn] at h
  obtain ⟨tab, panels, height, top, bottom, slot, op⟩ := b
  simp only [lensOk, Bool.and_eq_true, beq_iff_eq] at hl
  simp only [numsOk, areLong, Bool.and_eq_true] at hn
  obtain ⟨p0, p1, p2, p3, rfl⟩ := list_four hl.1
  obtain ⟨t0, t1, rfl⟩ := list_two hl.2.1
  obtain ⟨u0, u1, rfl⟩ := list_two hl.2.2
  obtain ⟨n1, n2, n3, n4, n5⟩ := hn
  have m1 := within_all n1; have m2 := within_all n2; have m3 := within_all n3; have m4 := within_all n4; have m5 := within_all n5
  simp only [List.mem_cons, List.not_mem_nil, or_false, forall_eq_or_imp, forall_eq, List.cons_append, List.nil_append] at m1 m2 m3 m4 m5
  refine ⟨⟨p0, p1, p2, p3, t0, t1, u0, u1, rfl, rfl, rfl, ?_⟩, m1, m5, ?_, m3, ?_⟩
  · simp only; omega
  · simp only [List.mem_cons, List.not_mem_nil, or_false, forall_eq_or_imp, forall_eq]; omega
  · intro hop
    simp only at hop
    subst hop
    simp only [Bool.true_and, Bool.not_eq_false'] at ho
    have := within_all ho
    simp only [List.mem_cons, List.not_mem_nil, or_false, forall_eq_or_imp, forall_eq] at this
    have e0 : t0 = 0 := by omega
    have e1 : t1 = 0 := by omega
    rw [e0, e1]
def meas (b : Bl) : List (Int × Int) :=
  measOf (b.panels.getD 0 0) (b.panels.getD 1 0) (b.panels.getD 2 0) (b.panels.getD 3 0) b.height (b.top.getD 0 0) (b.top.getD 1 0) (b.bottom.getD 0 0) (b.bottom.getD 1 0) b.isOpen
theorem measures_blk (v : Value) (b : Bl) (w : World) (hB : Blk w v b) (hF : Fine b) : Calls Try.prog 69 #[v] w (NewPp (meas b) w) := by
  obtain ⟨a1, n1, c1, a2, n2, c2, a3, n3, c3, rfl, h1, h2, h3⟩ := hB
  obtain ⟨tab, panels, h, top, bottom, slot, op⟩ := b
  obtain ⟨p0, p1, p2, p3, t0, t1, u0, u1, e1, e2, e3, r0, r1, r2, r3, s0, s1, q0, q1, rh⟩ := hF
  simp only at e1 e2 e3 h1 h2 h3 rh
  subst e1 e2 e3
  obtain rfl : n1 = 4 := h1.1
  obtain rfl : n2 = 2 := h2.1
  obtain rfl : n3 = 2 := h3.1
  obtain ⟨b1, o1, rfl, l1, k1⟩ := h1.at (by simp)
  obtain ⟨b2, o2, rfl, l2, k2⟩ := h2.at (by simp)
  obtain ⟨b3, o3, rfl, l3, k3⟩ := h3.at (by simp)
  exact measures_any tab p0 p1 p2 p3 h t0 t1 u0 u1 slot op b1 o1 c1 b2 o2 c2 b3 o3 c3 w k1 k2 k3 l1 l2 l3 r0 r1 s0 s1 q0 q1
theorem pp_one (w : World) (x y : Int) (t : TypeId) (g : Nat) (hg : g = w.heap.size) : Pp (w.alloc (.cells #[.int .i64 x, .int .i64 y] t)) (some ⟨g, 0, none⟩) 1 1 [(x, y)] := by
  subst hg
  refine ⟨rfl, Nat.le_refl _, by unfold maxLen; omega, by simp, .inr ⟨_, _, rfl, by simp, fun i hi => ?_⟩⟩
  have : i = 0 ∨ i = 1 := by simp at hi; omega
  rcases this with rfl | rfl <;> simp
end Go.Proofs.Ytnhipdbdolabkaa
namespace Go.Proofs.Ytnhipdbdolabkaa
open Go.RowKit
theorem getD_mem {α : Type} (l : List α) (k : Nat) (h : k < l.length) (d : α) : l.getD k d ∈ l := by
  rw [List.getD_eq_getElem?_getD, List.getElem?_eq_getElem h]; exact List.getElem_mem h
theorem meas_in {b : Bl} (h : Fine b) : ∀ x ∈ meas b, -6000 ≤ x.1 ∧ x.1 ≤ 3000 ∧ 1 ≤ x.2 ∧ x.2 ≤ 2 := by
  obtain ⟨p0, p1, p2, p3, t0, t1, u0, u1, e1, e2, e3, r0, r1, r2, r3, s0, s1, q0, q1, rh⟩ := h
  have hf : 1 ≤ foldsOf b.isOpen ∧ foldsOf b.isOpen ≤ 2 := by unfold foldsOf; split <;> omega
  intro x hx
  simp only [meas, measOf, e1, e2, e3, List.getD_cons_zero, List.getD_cons_succ, List.mem_cons, List.not_mem_nil, or_false] at hx
  rcases hx with rfl | rfl | rfl | rfl | rfl | rfl | rfl | rfl | rfl <;> simp only <;> omega
theorem meas_length (b : Bl) : (meas b).length = 9 := rfl
end Go.Proofs.Ytnhipdbdolabkaa
namespace Go.Proofs.Ytnhipdbdolabkaa
open Go.RowKit
def acrossOf (b : Bl) : Int := b.tab + b.panels.getD 0 0 + b.panels.getD 1 0 + b.panels.getD 2 0 + b.panels.getD 3 0
def topOf (b : Bl) : Int := max (b.top.getD 0 0) (b.top.getD 1 0)
def alongOf (b : Bl) : Int := topOf b + b.height + max (b.bottom.getD 0 0) (b.bottom.getD 1 0)
/-- What Size leaves. -/
def SizeP (b : Bl) (w : World) (e : Ending) (w' : World) : Prop :=
  e = .returned (.tuple (if checkErr b = 0 then #[.int .i64 (acrossOf b), .int .i64 (alongOf b), .int .i64 (acrossOf b * alongOf b), .int .i64 0] else #[.int .i64 0, .int .i64 0, .int .i64 0, .int .i64 (checkErr b)])) ∧ Below w.heap.size w w'
set_option maxRecDepth 100000 in
set_option maxHeartbeats 4000000 in
theorem size_any (v : Value) (b : Bl) (w : World) (hB : Blk w v b) : Calls Try.prog 26 #[v] w (SizeP b w) := by
  obtain ⟨a1, n1, c1, a2, n2, c2, a3, n3, c3, rfl, h1, h2, h3⟩ := hB
  by_cases z : checkErr b = 0
  case neg =>
    have C := Lib.hid (check_any _ b (w.alloc (.cells #[.int .i64 b.tab, .slice a1 n1 c1, .int .i64 b.height, .slice a2 n2 c2, .slice a3 n3 c3, .int .i64 b.slot, .bool b.isOpen] 57)) ⟨a1, n1, c1, a2, n2, c2, a3, n3, c3, rfl, h1.below (balloc1 w _) (Nat.le_refl _), h2.below (balloc1 w _) (Nat.le_refl _), h3.below (balloc1 w _) (Nat.le_refl _)⟩)
    have z' : (checkErr b != 0) = true := by rw [bne_iff_ne]; exact z
    have Z := Lib.hid z
    clear h1 h2 h3 z
    generalize hx : checkErr b = x at *
    go_enter Try.func26, Try.ntmps26
    go_wp2_with ((with_reducible refine (C.out).mono ?_); rintro e w1 ⟨rfl, hb1⟩)
    exact bodyPost_ret (v := .tuple #[.int .i64 0, .int .i64 0, .int .i64 0, .int .i64 x]) (by simp [results, Try.results26, go_sem]) rfl ⟨by rw [hx, if_neg Z.out], bnext (balloc1 _ _) hb1⟩
  have C := Lib.hid (check_any _ b (w.alloc (.cells #[.int .i64 b.tab, .slice a1 n1 c1, .int .i64 b.height, .slice a2 n2 c2, .slice a3 n3 c3, .int .i64 b.slot, .bool b.isOpen] 57)) ⟨a1, n1, c1, a2, n2, c2, a3, n3, c3, rfl, h1.below (balloc1 w _) (Nat.le_refl _), h2.below (balloc1 w _) (Nat.le_refl _), h3.below (balloc1 w _) (Nat.le_refl _)⟩)
  rw [z] at C
  obtain ⟨hF, htab, -, -, -, -⟩ := fine_of_check z
  obtain ⟨tab, panels, h, top, bottom, slot, op⟩ := b
  obtain ⟨p0, p1, p2, p3, t0, t1, u0, u1, e1, e2, e3, r0, r1, r2, r3, s0, s1, q0, q1, rh⟩ := hF
  simp only at e1 e2 e3 h1 h2 h3 rh htab
  subst e1 e2 e3
  obtain rfl : n1 = 4 := h1.1
  obtain rfl : n2 = 2 := h2.1
  obtain rfl : n3 = 2 := h3.1
  obtain ⟨b1, o1, rfl, l1, k1⟩ := h1.at (by simp)
  obtain ⟨b2, o2, rfl, l2, k2⟩ := h2.at (by simp)
  obtain ⟨b3, o3, rfl, l3, k3⟩ := h3.at (by simp)
  have Z := Lib.hid z; have H2 := Lib.hid h2; have H3 := Lib.hid h3; have K1 := Lib.hid k1
  have hw0 := balloc1 w (.cells #[.int .i64 tab, .slice (some ⟨b1, o1, none⟩) 4 c1, .int .i64 h, .slice (some ⟨b2, o2, none⟩) 2 c2, .slice (some ⟨b3, o3, none⟩) 2 c3, .int .i64 slot, .bool op] 57)
  have R := Lib.hid (And.intro htab (And.intro r0 (And.intro r1 (And.intro r2 r3))))
  clear z h1 h2 h3 k1 k2 k3
  have wp : ∀ i, i < 4 → w.cell? ⟨b1, o1 + i, none⟩ = some (.int .i64 ([p0, p1, p2, p3].getD i 0)) := K1.out
  go_enter Try.func26, Try.ntmps26
  go_wp2_with ((with_reducible refine (C.out).mono ?_); rintro e w1 ⟨rfl, hb1⟩; have hc1 := box_cell hb1)
  have hB1 : Below w.heap.size w w1 := bnext hw0 hb1
  have x0 := (hB1.cell (p := ⟨b1, o1 + 0, none⟩) l1).trans (wp 0 (by omega))
  have x1 := (hB1.cell (p := ⟨b1, o1 + 1, none⟩) l1).trans (wp 1 (by omega))
  have x2 := (hB1.cell (p := ⟨b1, o1 + 2, none⟩) l1).trans (wp 2 (by omega))
  have x3 := (hB1.cell (p := ⟨b1, o1 + 3, none⟩) l1).trans (wp 3 (by omega))
  simp only [Nat.add_zero, List.getD_cons_zero, List.getD_cons_succ] at x0 x1 x2 x3
  have M2 := Lib.hid (H2.out.below hB1 (Nat.le_refl _)); have M3 := Lib.hid (H3.out.below hB1 (Nat.le_refl _))
  clear wp
  refine wp_loop_rounds 5 ?_
  rw [rounds_succ]
  go_wp2
  rw [rounds_succ]
  go_wp2
  rw [rounds_succ]
  go_wp2
  rw [rounds_succ]
  go_wp2
  rw [rounds_succ]
  have y2 := hc1 2; have y3 := hc1 3; have y4 := hc1 4
  simp only [List.getElem?_toArray, List.getElem?_cons_succ, List.getElem?_cons_zero] at y2 y3 y4
  clear x0 x1 x2 x3 hc1
  have mt : 0 ≤ max t0 t1 ∧ max t0 t1 ≤ 3000 := by simp only [Int.max_def]; split <;> omega
  have mu : 0 ≤ max u0 u1 ∧ max u0 u1 ≤ 3000 := by simp only [Int.max_def]; split <;> omega
  have ht := Lib.hid (rfl : max t0 t1 = max t0 t1)
  generalize hmt : max t0 t1 = mt' at *
  generalize hmu : max u0 u1 = mu' at *
  have HMT := Lib.hid hmt; have HMU := Lib.hid hmu
  clear hmt hmu ht
  have wr1 : IntKind.i64.wrap (mt' + h) = mt' + h := IntWalk.i64_in _ (by omega)
  have wr2 : IntKind.i64.wrap (mt' + h + mu') = mt' + h + mu' := IntWalk.i64_in _ (by omega)
  go_wp2_with fail
  go_region_held3 (fun w' => w'.cell? ⟨w.heap.size, 2, none⟩ = some (.int .i64 h) ∧ w'.cell? ⟨w.heap.size, 3, none⟩ = some (.slice (some ⟨b2, o2, none⟩) 2 c2) ∧ w'.cell? ⟨w.heap.size, 4, none⟩ = some (.slice (some ⟨b3, o3, none⟩) 2 c3)) (go_keep)
    (first
      | (go_at_call 35; (with_reducible refine (max_two t0 t1 _ _ _ (M2.out.below (by repeat (first | exact Below.refl _ _ | assumption | apply Below.drew | (refine balloc ?_ _))) (Nat.le_refl _))).mono ?_); rintro e w' ⟨rfl, rfl⟩; rw [HMT.out])
      | (go_at_call 35; (with_reducible refine (max_two u0 u1 _ _ _ (M3.out.below (by repeat (first | exact Below.refl _ _ | assumption | apply Below.drew | (refine balloc ?_ _))) (Nat.le_refl _))).mono ?_); rintro e w' ⟨rfl, rfl⟩; rw [HMU.out]))
  have hm1 : 0 ≤ (tab + p0 + p1 + p2 + p3) * (mt' + h + mu') := Int.mul_nonneg (by omega) (by omega)
  have hm2 : (tab + p0 + p1 + p2 + p3) * (mt' + h + mu') ≤ 20000 * 20000 := Int.mul_le_mul (by omega) (by omega) (by omega) (by omega)
  clear wr1 wr2 y2 y3 y4
  go_wp2
  refine bodyPost_ret (v := .tuple #[.int .i64 (tab + p0 + p1 + p2 + p3), .int .i64 (mt' + h + mu'), .int .i64 ((tab + p0 + p1 + p2 + p3) * (mt' + h + mu')), .int .i64 0]) (by simp [results, Try.results26, go_sem]) rfl ⟨?_, hB1.drew⟩
  rw [if_pos Z.out]
  simp only [acrossOf, alongOf, topOf, List.getD_cons_zero, List.getD_cons_succ, HMT.out, HMU.out]
end Go.Proofs.Ytnhipdbdolabkaa
namespace Go.Proofs.Ytnhipdbdolabkaa
open Go.RowKit
theorem checked_split {bs : List Bl} {cs : List Sp} (h : checkedErr bs cs = 0) : (∀ b ∈ bs, checkErr b = 0) ∧ (∀ s ∈ cs, isSpan s 1 10000 = true) := by
  induction bs with
  | nil =>
    refine ⟨by simp, fun s hs => ?_⟩
    cases e : isSpan s 1 10000 with
    | true => rfl
    | false =>
      have : cs.any (fun s => !isSpan s 1 10000) = true := List.any_eq_true.2 ⟨s, hs, by simp [e]⟩
      simp [checkedErr, this] at h
  | cons b r ih =>
    simp only [checkedErr] at h
    by_cases e : checkErr b = 0
    · rw [if_pos e] at h
      exact ⟨by intro x hx; rcases List.mem_cons.1 hx with rfl | hx; exact e; exact (ih h).1 x hx, (ih h).2⟩
    · rw [if_neg e] at h; exact absurd h e
theorem span_bounds {s : Sp} (h : isSpan s 1 10000 = true) : 1 ≤ s.1 ∧ s.1 ≤ s.2 ∧ s.2 ≤ 10000 := by
  simp only [isSpan, Bool.and_eq_true, decide_eq_true_eq] at h
  have h1 := within_all h.1 s.1 (by simp); have h2 := within_all h.1 s.2 (by simp)
  omega
end Go.Proofs.Ytnhipdbdolabkaa
