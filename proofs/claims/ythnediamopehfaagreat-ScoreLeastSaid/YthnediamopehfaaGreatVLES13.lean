/- Part of the proof: what the claim leans on. -/
import Derived.Test.YthnediamopehfaaGreatVLEL12
set_option maxRecDepth 100000
set_option linter.unusedSimpArgs false
set_option linter.unusedVariables false
namespace Go.Proofs.YthnediamopehfaaGreat
open Go.RowKit
theorem fold_holds {x : Sh} (gx : ShIn x) {c : Int} (h1 : (shCal x).1 ≤ c) (h2 : c ≤ (shCal x).2) {k : Nat} (hk : k < 10) : holdsR (twinB (shBl x)) (wishOf x (twinB (shBl x)) (shCal x).1 (shCal x).2) k c = true := by
  have hf := fold_k gx hk
  have hc := shCal_in gx
  exact (holdsR_iff hk (by omega) (by omega)).2 ⟨by omega, by omega⟩
open Go.RowKit
theorem four_in {a b c d : Int} (ha : 0 ≤ a ∧ a ≤ 3000) (hb : 0 ≤ b ∧ b ≤ 3000) (hc : 0 ≤ c ∧ c ≤ 3000) (hd : 0 ≤ d ∧ d ≤ 3000) (i : Nat) : 0 ≤ [a, b, c, d].getD i 0 ∧ [a, b, c, d].getD i 0 ≤ 3000 := by
  match i with
  | 0 => exact ha
  | 1 => exact hb
  | 2 => exact hc
  | 3 => exact hd
  | n + 4 => simp
theorem two_in {a b : Int} (ha : 0 ≤ a ∧ a ≤ 3000) (hb : 0 ≤ b ∧ b ≤ 3000) (i : Nat) : 0 ≤ [a, b].getD i 0 ∧ [a, b].getD i 0 ≤ 3000 := by
  match i with
  | 0 => exact ha
  | 1 => exact hb
  | n + 2 => simp
theorem less_lens {m0 m1 m2 m3 t0 t1 u0 u1 mh ms tab : Int} {op : Bool} (kk : Nat) {q : Bl} (hq : lessB ⟨tab, [m0, m1, m2, m3], mh, [t0, t1], [u0, u1], ms, op⟩ kk = q) : q.panels.length = 4 ∧ q.top.length = 2 ∧ q.bottom.length = 2 ∧ q.tab = tab ∧ q.isOpen = op := by
  subst hq
  unfold lessB
  split
  · simp
  · split
    · simp
    · split
      · simp
      · split <;> simp
theorem less_form {m0 m1 m2 m3 t0 t1 u0 u1 mh ms tab : Int} {op : Bool} {kk : Nat} {q : Bl} (hq : lessB ⟨tab, [m0, m1, m2, m3], mh, [t0, t1], [u0, u1], ms, op⟩ kk = q) :
    (kk < 4 → q.panels = [m0, m1, m2, m3].set kk ([m0, m1, m2, m3].getD kk 0 - 1) ∧ q.top = [t0, t1] ∧ q.bottom = [u0, u1] ∧ q.height = mh ∧ q.slot = ms) ∧
    (4 ≤ kk ∧ kk < 6 → q.panels = [m0, m1, m2, m3] ∧ q.top = [t0, t1].set (kk - 4) ([t0, t1].getD (kk - 4) 0 - 1) ∧ q.bottom = [u0, u1] ∧ q.height = mh ∧ q.slot = ms) ∧
    (6 ≤ kk ∧ kk < 8 → q.panels = [m0, m1, m2, m3] ∧ q.top = [t0, t1] ∧ q.bottom = [u0, u1].set (kk - 6) ([u0, u1].getD (kk - 6) 0 - 1) ∧ q.height = mh ∧ q.slot = ms) ∧
    (kk = 8 → q.panels = [m0, m1, m2, m3] ∧ q.top = [t0, t1] ∧ q.bottom = [u0, u1] ∧ q.height = mh - 1 ∧ q.slot = ms) ∧
    (kk = 9 → q.panels = [m0, m1, m2, m3] ∧ q.top = [t0, t1] ∧ q.bottom = [u0, u1] ∧ q.height = mh ∧ q.slot = ms - 1) := by
  subst hq
  unfold lessB
  refine ⟨fun h => ?_, fun h => ?_, fun h => ?_, fun h => ?_, fun h => ?_⟩
  · rw [if_pos h]; exact ⟨rfl, rfl, rfl, rfl, rfl⟩
  · rw [if_neg (by omega), if_pos h.2]; exact ⟨rfl, rfl, rfl, rfl, rfl⟩
  · rw [if_neg (by omega), if_neg (by omega), if_pos h.2]; exact ⟨rfl, rfl, rfl, rfl, rfl⟩
  · rw [if_neg (by omega), if_neg (by omega), if_neg (by omega), if_pos h]; exact ⟨rfl, rfl, rfl, rfl, rfl⟩
  · rw [if_neg (by omega), if_neg (by omega), if_neg (by omega), if_neg (by omega)]; exact ⟨rfl, rfl, rfl, rfl, rfl⟩
theorem least_bad {q : Bl} {v : Wi} {lo hi E : Int} {LL : List Sp} (hwv : wishErr v = 0) (h1 : 1 ≤ lo) (h2 : lo ≤ hi) (h3 : hi ≤ 10000) (h : checkErr q = 2 ∨ (checkErr q = 0 ∧ closeL q v (lo, hi) ≠ [])) (hE : wishedErr q v [(lo, hi)] = E) (hLL : (if wishedErr q v [(lo, hi)] = 0 then closeL q v (lo, hi) else []) = LL) : (((E == 0) && ((LL.length : Int) == 0)) || ((E != 0) && (E != 2))) = false := by
  rcases h with hc | ⟨hc, hn⟩
  · have e : wishedErr q v [(lo, hi)] = 2 := by unfold wishedErr; rw [if_neg (by rw [hc]; decide), hc]
    rw [e] at hE
    subst hE
    simp
  · have e : wishedErr q v [(lo, hi)] = 0 := wished_ok hc hwv h1 h2 h3
    rw [if_pos e] at hLL
    rw [e] at hE
    subst hE hLL
    simp [hn]
theorem least_law (x : Sh) (gx : ShIn x) (wh : Int) (gwh : 0 ≤ wh ∧ wh ≤ 255) (w : World) : Calls Tryz.prog 9 #[.agg #[.int .u8 x.x0, .int .u8 x.x1, .int .u8 x.x2, .int .u8 x.x3, .int .u8 x.xh, .int .u8 x.y0, .int .u8 x.y1, .int .u8 x.y2, .int .u8 x.y3, .bool x.xo, .int .u8 x.ca, .int .u8 x.cb, .int .u8 x.v0, .int .u8 x.v1, .int .u8 x.v2, .int .u8 x.v3, .int .u8 x.v4], .int .u8 wh] w (fun e w' => e = .returned (.bool true) ∧ Below w.heap.size w w') := by
  have hkd := shBl_ok gx
  have hck := twin_ok hkd
  obtain ⟨c1, c2, c3⟩ := shCal_in gx
  have hwv := wish_ok x (twinB (shBl x)) c2
  have hhold : ∀ k, k < 10 → ∀ c, (shCal x).1 ≤ c → c ≤ (shCal x).2 → holdsR (twinB (shBl x)) (wishOf x (twinB (shBl x)) (shCal x).1 (shCal x).2) k c = true := fun k hk c h1 h2 => fold_holds gx h1 h2 hk
  have hto : (twinB (shBl x)).isOpen = (wishOf x (twinB (shBl x)) (shCal x).1 (shCal x).2).isOpen := rfl
  obtain ⟨v, hv⟩ : ∃ v, wishOf x (twinB (shBl x)) (shCal x).1 (shCal x).2 = v := ⟨_, rfl⟩
  rw [hv] at hwv hhold hto
  obtain ⟨b, ht⟩ : ∃ b, twinB (shBl x) = b := ⟨_, rfl⟩
  rw [ht] at hck hhold hto hv
  obtain ⟨⟨lo, hi⟩, hcal⟩ : ∃ s, shCal x = s := ⟨_, rfl⟩
  rw [hcal] at hhold hv c1 c2 c3
  have c1 : 1 ≤ lo := c1
  have c2 : lo ≤ hi := c2
  have c3 : hi ≤ 10000 := c3
  obtain ⟨M, hM, hf, hmk, hmh, hmc⟩ := least_min c1 c2 c3 hck hto hhold
  obtain ⟨kk, hk⟩ : ∃ n : Nat, wh % 10 = (n : Int) := ⟨(wh % 10).toNat, by omega⟩
  have hk10 : kk < 10 := by omega
  have hbad := less_bad c1 c2 c3 hM hf hk10
  obtain ⟨m0, m1, m2, m3, t0, t1, u0, u1, mh, hMf⟩ := hf
  have d2 : lo ≤ (lo + hi) / 2 := by omega
  have d3 : (lo + hi) / 2 ≤ hi := by omega
  obtain ⟨N, hN, -, hnk, -, hnc⟩ := least_min c1 d2 (by omega) hmk (by rw [hMf]) (fun k hk' c h1 h2 => hmh k hk' c h1 (by omega))
  obtain ⟨⟨ml1, ml2, ml3⟩, -, gs, gh, ⟨gp0, gp1, gp2, gp3⟩, gt0, gt1, gu0, gu1⟩ := good_nums hmk
  obtain ⟨⟨nl1, nl2, nl3⟩, -⟩ := good_nums hnk
  obtain ⟨q, hq⟩ : ∃ q, lessB M kk = q := ⟨_, rfl⟩
  rw [hq] at hbad
  have hcl := (close_iff c1 c2 c3).2 hmh
  have s1 : isSpan (lo, hi) 1 10000 = true := isSpan_iff.2 ⟨c1, c2, c3⟩
  have s2 : isSpan (lo, (lo + hi) / 2) 1 10000 = true := isSpan_iff.2 ⟨c1, d2, by omega⟩
  have hA := (all_e4 (tab := 30) hwv s1 rfl).trans hM
  have hB := (all_e4 (tab := 30) hwv s2 rfl).trans hN
  obtain ⟨ms, hms⟩ : ∃ y, upI hi 1000 = y := ⟨_, rfl⟩
  rw [hms] at hMf
  have hq' := hq
  rw [hMf] at hq'
  obtain ⟨q1, q2, q3, q4, q5⟩ := less_lens kk hq'
  obtain ⟨f0, f1, f2, f3, f4⟩ := less_form hq'
  have hgp : ∀ i, 0 ≤ [m0, m1, m2, m3].getD i 0 ∧ [m0, m1, m2, m3].getD i 0 ≤ 3000 := by
    rw [hMf] at gp0 gp1 gp2 gp3
    simp only [List.getD_cons_zero, List.getD_cons_succ] at gp0 gp1 gp2 gp3
    exact four_in (by omega) (by omega) (by omega) (by omega)
  have hgt : ∀ i, 0 ≤ [t0, t1].getD i 0 ∧ [t0, t1].getD i 0 ≤ 3000 := by
    rw [hMf] at gt0 gt1
    exact two_in gt0 gt1
  have hgu : ∀ i, 0 ≤ [u0, u1].getD i 0 ∧ [u0, u1].getD i 0 ≤ 3000 := by
    rw [hMf] at gu0 gu1
    exact two_in gu0 gu1
  have hgh : 0 ≤ mh ∧ mh ≤ 3000 := by
    rw [hMf] at gh
    have gh : 1 ≤ mh ∧ mh ≤ 3000 := gh
    omega
  have hgs : 0 ≤ ms ∧ ms ≤ 3000 := by
    rw [← hms]; unfold upI; omega
  have hmt : (M.tab != 30) = false := by rw [hMf]; rfl
  have hmo : M.isOpen = v.isOpen := by rw [hMf]
  exact least_main x gx wh gwh kk hk hk10 b (shBl x) M N q v m0 m1 m2 m3 mh t0 t1 u0 u1 ms lo hi (cmpB M b) (cmpB N M) (wishedErr q v [(lo, hi)]) (closeL M v (lo, hi)) (if wishedErr q v [(lo, hi)] = 0 then closeL q v (lo, hi) else []) w
    rfl ht hcal hto hv hkd hck hwv c1 c2 c3 hA hB hmk hnk (by rw [hMf]) (hmo.trans hto.symm) (by rw [ml1]; rfl) (by rw [ml2]; rfl) (by rw [ml3]; rfl) hmt (by rw [nl1]; rfl) (by rw [nl2]; rfl) (by rw [nl3]; rfl)
    ⟨by omega, by omega, by omega⟩ ml1 ml2 ml3 (by omega) (by omega) (by omega) rfl (by omega) rfl hnc rfl (by rw [hcl]; rfl) (fun i => [m0, m1, m2, m3].getD i 0) (fun i => [t0, t1].getD i 0) (fun i => [u0, u1].getD i 0) (fun _ => rfl) (fun _ => rfl) (fun _ => rfl) hgp hgt hgu hgh hgs q1 q2 q3 q4 (q5.trans hmo.symm) f0 f1 f2 f3 f4 rfl rfl (least_bad hwv c1 c2 c3 hbad rfl rfl)
open Go.ChangeShapes Go.WideShapes Go.ChangeAt Go.RowKit
theorem bounds_u8 {n : Int} (h : (Lit.int .u8 n).wf = true) : 0 ≤ n ∧ n ≤ 255 := by
  simp only [Lit.wf, Bool.and_eq_true, decide_eq_true_eq] at h
  exact h
theorem open_arr {k : IntKind} {e : TypeId} {H : Type} {enc : TypeId × Value → H} {W : World} {spare : Nat → Bool} {held : Bool} {fuel n : Nat} {t : TypeId} {cs : List Value} {y : DataW H × List MemPlace} (he : Tryz.prog.underlying e = some (.int k)) (hc : Tryz.prog.cellsOf e = 1) (ht : Tryz.prog.underlying t = some (.array n e)) (hf : DataW.trod enc Tryz.prog W 0 spare held fuel t cs = some y) (hn : cs.length = n) :
    ∀ i, i < n → ∃ x, cs[i]? = some (.int k x) ∧ (Lit.int k x).wf = true := by
  obtain ⟨xs, m, _, _, hl, hlen, hel⟩ := DataW.trod_array ht hf
  intro i hi
  have f := hel i hi
  rw [hc, Nat.mul_one] at f
  rw [List.getElem?_eq_getElem (by omega : i < xs.length)] at f
  obtain ⟨x, q, -, wf⟩ := DataW.trod_int he f
  refine ⟨x, ?_, wf⟩
  have h1 : ((cs.drop i).take 1)[0]? = some (.int k x) := by rw [q]; rfl
  simpa using h1
theorem open_sheet {H : Type} {enc : TypeId × Value → H} {W : World} {r : Reach} {b0 : Nat} {spare : Nat → Bool} {held : Bool} {v : Value} {d : DataW H} {ps : List MemPlace}
    (hv : Value.okWide Tryz.prog W r b0 72 v) (h : DataW.Trod enc Tryz.prog W 0 spare held 72 v d ps) :
    ∃ x : Sh, v = .agg #[.int .u8 x.x0, .int .u8 x.x1, .int .u8 x.x2, .int .u8 x.x3, .int .u8 x.xh, .int .u8 x.y0, .int .u8 x.y1, .int .u8 x.y2, .int .u8 x.y3, .bool x.xo, .int .u8 x.ca, .int .u8 x.cb, .int .u8 x.v0, .int .u8 x.v1, .int .u8 x.v2, .int .u8 x.v3, .int .u8 x.v4] ∧ ShIn x := by
  obtain ⟨cs, rfl, hsz⟩ := okWide_struct Tryz.underlying72 hv
  obtain ⟨fuel, hf⟩ := h
  obtain ⟨xs, n, _, _, hl, hlen, hfld⟩ := DataW.trod_struct Tryz.underlying72 hf
  have e17 : Tryz.prog.cellsOf 72 = 17 := by kernel_rfl
  rw [e17] at hsz
  have a4 : Tryz.prog.cellsOf 68 = 4 := by kernel_rfl
  have a2 : Tryz.prog.cellsOf 69 = 2 := by kernel_rfl
  have a5 : Tryz.prog.cellsOf 70 = 5 := by kernel_rfl
  have u1 : Tryz.prog.cellsOf 5 = 1 := by kernel_rfl
  have o1 : Tryz.prog.cellsOf 4 = 1 := by kernel_rfl
  obtain ⟨l⟩ := cs
  match l, hsz with
  | [c0, c1, c2, c3, c4, c5, c6, c7, c8, c9, c10, c11, c12, c13, c14, c15, c16], _ =>
    match xs, hlen with
    | [y0, y1, y2, y3, y4, y5], _ =>
      have f0 : DataW.trod enc Tryz.prog W 0 spare held n 68 ((List.drop 0 [c0, c1, c2, c3, c4, c5, c6, c7, c8, c9, c10, c11, c12, c13, c14, c15, c16]).take (Tryz.prog.cellsOf 68)) = some y0 := hfld 0 _ rfl
      have f1 : DataW.trod enc Tryz.prog W 0 spare held n 5 ((List.drop 4 [c0, c1, c2, c3, c4, c5, c6, c7, c8, c9, c10, c11, c12, c13, c14, c15, c16]).take (Tryz.prog.cellsOf 5)) = some y1 := hfld 1 _ rfl
      have f2 : DataW.trod enc Tryz.prog W 0 spare held n 68 ((List.drop 5 [c0, c1, c2, c3, c4, c5, c6, c7, c8, c9, c10, c11, c12, c13, c14, c15, c16]).take (Tryz.prog.cellsOf 68)) = some y2 := hfld 2 _ rfl
      have f3 : DataW.trod enc Tryz.prog W 0 spare held n 4 ((List.drop 9 [c0, c1, c2, c3, c4, c5, c6, c7, c8, c9, c10, c11, c12, c13, c14, c15, c16]).take (Tryz.prog.cellsOf 4)) = some y3 := hfld 3 _ rfl
      have f4 : DataW.trod enc Tryz.prog W 0 spare held n 69 ((List.drop 10 [c0, c1, c2, c3, c4, c5, c6, c7, c8, c9, c10, c11, c12, c13, c14, c15, c16]).take (Tryz.prog.cellsOf 69)) = some y4 := hfld 4 _ rfl
      have f5 : DataW.trod enc Tryz.prog W 0 spare held n 70 ((List.drop 12 [c0, c1, c2, c3, c4, c5, c6, c7, c8, c9, c10, c11, c12, c13, c14, c15, c16]).take (Tryz.prog.cellsOf 70)) = some y5 := hfld 5 _ rfl
      rw [a4] at f0; change DataW.trod enc Tryz.prog W 0 spare held n 68 [c0, c1, c2, c3] = some y0 at f0
      rw [u1] at f1; change DataW.trod enc Tryz.prog W 0 spare held n 5 [c4] = some y1 at f1
      rw [a4] at f2; change DataW.trod enc Tryz.prog W 0 spare held n 68 [c5, c6, c7, c8] = some y2 at f2
      rw [o1] at f3; change DataW.trod enc Tryz.prog W 0 spare held n 4 [c9] = some y3 at f3
      rw [a2] at f4; change DataW.trod enc Tryz.prog W 0 spare held n 69 [c10, c11] = some y4 at f4
      rw [a5] at f5; change DataW.trod enc Tryz.prog W 0 spare held n 70 [c12, c13, c14, c15, c16] = some y5 at f5
      have A0 := open_arr Tryz.underlying5 u1 Tryz.underlying68 f0 rfl
      have A2 := open_arr Tryz.underlying5 u1 Tryz.underlying68 f2 rfl
      have A4 := open_arr Tryz.underlying5 u1 Tryz.underlying69 f4 rfl
      have A5 := open_arr Tryz.underlying5 u1 Tryz.underlying70 f5 rfl
      obtain ⟨x0, e0, g0⟩ := A0 0 (by decide)
      obtain ⟨x1, e1, g1⟩ := A0 1 (by decide)
      obtain ⟨x2, e2, g2⟩ := A0 2 (by decide)
      obtain ⟨x3, e3, g3⟩ := A0 3 (by decide)
      obtain ⟨xh, e4, -, g4⟩ := DataW.trod_int Tryz.underlying5 f1
      obtain ⟨z0, e5, g5⟩ := A2 0 (by decide)
      obtain ⟨z1, e6, g6⟩ := A2 1 (by decide)
      obtain ⟨z2, e7, g7⟩ := A2 2 (by decide)
      obtain ⟨z3, e8, g8⟩ := A2 3 (by decide)
      obtain ⟨xo, e9, -⟩ := DataW.trod_bool Tryz.underlying4 f3
      obtain ⟨ca, e10, g10⟩ := A4 0 (by decide)
      obtain ⟨cb, e11, g11⟩ := A4 1 (by decide)
      obtain ⟨v0, e12, g12⟩ := A5 0 (by decide)
      obtain ⟨v1, e13, g13⟩ := A5 1 (by decide)
      obtain ⟨v2, e14, g14⟩ := A5 2 (by decide)
      obtain ⟨v3, e15, g15⟩ := A5 3 (by decide)
      obtain ⟨v4, e16, g16⟩ := A5 4 (by decide)
      obtain rfl := Option.some.inj e0
      obtain rfl := Option.some.inj e1
      obtain rfl := Option.some.inj e2
      obtain rfl := Option.some.inj e3
      obtain rfl := (List.cons.inj e4).1
      obtain rfl := Option.some.inj e5
      obtain rfl := Option.some.inj e6
      obtain rfl := Option.some.inj e7
      obtain rfl := Option.some.inj e8
      obtain rfl := (List.cons.inj e9).1
      obtain rfl := Option.some.inj e10
      obtain rfl := Option.some.inj e11
      obtain rfl := Option.some.inj e12
      obtain rfl := Option.some.inj e13
      obtain rfl := Option.some.inj e14
      obtain rfl := Option.some.inj e15
      obtain rfl := Option.some.inj e16
      exact ⟨⟨x0, x1, x2, x3, xh, z0, z1, z2, z3, xo, ca, cb, v0, v1, v2, v3, v4⟩, rfl, bounds_u8 g0, bounds_u8 g1, bounds_u8 g2, bounds_u8 g3, bounds_u8 g4, bounds_u8 g5, bounds_u8 g6, bounds_u8 g7, bounds_u8 g8, bounds_u8 g10, bounds_u8 g11, bounds_u8 g12, bounds_u8 g13, bounds_u8 g14, bounds_u8 g15, bounds_u8 g16⟩
end Go.Proofs.YthnediamopehfaaGreat
