/- Part of the proof: what the claim leans on. -/
import Derived.Test.YthnediamopehfaaWBH
import Derived.ProofKit
import Derived.OpenShut
import Derived.ChangeOld
import Derived.Below
import Derived.Test.YthnediamopehfaaWAC
import Derived.Test.YthnediamopehfaaWBB
set_option linter.unusedSimpArgs false
set_option linter.unusedVariables false
namespace Go.Proofs.Ythnediamopehfaa
open Go.RowKit
theorem sh_pan (x : Sh) (gx : ShIn x) {i : Nat} (hi : i < 4) : 60 ≤ (shBl x).panels.getD i 0 ∧ (shBl x).panels.getD i 0 ≤ 315 := by
  obtain ⟨h0, h1, h2, h3, -⟩ := gx
  match i, hi with
  | 0, _ => show 60 ≤ 60 + x.x0 ∧ 60 + x.x0 ≤ 315; omega
  | 1, _ => show 60 ≤ 60 + x.x1 ∧ 60 + x.x1 ≤ 315; omega
  | 2, _ => show 60 ≤ 60 + x.x2 ∧ 60 + x.x2 ≤ 315; omega
  | 3, _ => show 60 ≤ 60 + x.x3 ∧ 60 + x.x3 ≤ 315; omega
theorem ov_in {A C th : Int} (h : dn (min A C) = th) : 1000 * th ≤ min A C ∧ min A C < 1000 * (th + 1) := by unfold dn at h; omega
theorem ov_in1 {A th : Int} (h : dn A = th) : 1000 * th ≤ A ∧ A < 1000 * (th + 1) := by unfold dn at h; omega
theorem ov_th {A C th : Int} (h : dn (min A C) = th) (hA : 0 ≤ A ∧ A ≤ 2000000) (hC : 0 ≤ C ∧ C ≤ 2000000) : 0 ≤ th ∧ th ≤ 2000 := by unfold dn at h; omega
theorem ov_th1 {A th : Int} (h : dn A = th) (hA : 0 ≤ A ∧ A ≤ 2000000) : 0 ≤ th ∧ th ≤ 2000 := by unfold dn at h; omega
theorem ov_min {a b c d : Int} (h1 : a ≤ c) (h2 : b ≤ d) : min a b ≤ min c d := by omega
theorem ov_less {th v X : Int} (h : 1000 * th ≤ X) (h0 : 0 ≤ th) (hv : 0 ≤ v) : 1000 * max 0 (th - v) ≤ X := by omega
theorem ov_pan {p c : Int} (h1 : 60 ≤ p ∧ p ≤ 315) (h2 : 200 ≤ c) (h3 : c ≤ 7200) : 0 ≤ 1000 * p - c ∧ 1000 * p - c ≤ 2000000 := by omega
theorem ov_high {x c n : Int} (hz : n = 1000 * (40 + x) - c ∨ n = 1000 * (40 + x) - 2 * c) (hx : 0 ≤ x ∧ x ≤ 255) (h2 : 200 ≤ c) (h3 : c ≤ 7200) : 0 ≤ n ∧ n ≤ 2000000 := by omega
theorem ov_le {P a b c d : Int} (h1 : a ≤ b) (h2 : c ≤ d) : ¬ P - a - c < P - b - d := by omega
theorem ov_bd {p q a b c d : Int} (h1 : 60 ≤ p ∧ p ≤ 315) (h2 : 60 ≤ q ∧ q ≤ 315) (ha : 1 ≤ a) (hb : a ≤ b) (hb' : b ≤ 10000) (hc : 1 ≤ c) (hd : c ≤ d) (hd' : d ≤ 10000) : (-1000000000 ≤ 1000 * (p - q) - b - d ∧ 1000 * (p - q) - b - d ≤ 1000000000) ∧ (-1000000000 ≤ 1000 * (p - q) - a - c ∧ 1000 * (p - q) - a - c ≤ 1000000000) := by omega
theorem ov_m {p q m b d l : Int} : 1000 * (p + m - q) - (b - l) - d = (1000 * (p - q) - b - d) + l + 1000 * m := by omega
theorem ov_n {p q b d l : Int} : 1000 * (p - q) - b - (d - l) = (1000 * (p - q) - b - d) + l := by omega
theorem ov_rem {n m : Int} {k : Int} (h : n % m = k) (hm : m = 100 ∨ m = 40) : 0 ≤ k ∧ k < m := by rcases hm with rfl | rfl <;> omega
theorem ov_lg (x : Sh) (gx : ShIn x) {mo t0 t1 : Int} (gmo : 0 ≤ mo ∧ mo < 40) (gt0 : 0 ≤ t0 ∧ t0 ≤ 255) (gt1 : 0 ≤ t1 ∧ t1 ≤ 255) (ho : x.xo = true → t0 = 0 ∧ t1 = 0) : checkErr ⟨30, [60 + x.x0 + mo, 60 + x.x1 + mo, 60 + x.x2 + mo, 60 + x.x3 + mo], 40 + x.xh, [t0, t1], [x.y2, x.y3], 9, x.xo⟩ = 0 := by
  obtain ⟨g0, g1, g2, g3, gh, gy0, gy1, gy2, gy3, -⟩ := gx
  exact check_ok (by omega) (by omega) (by omega) (by omega) (by omega) (by omega) (by omega) (by omega) (by omega) (by omega) (by omega) ho
theorem ov_top (x : Sh) (gx : ShIn x) : (0 ≤ (if x.xo = true then 0 else x.y0) ∧ (if x.xo = true then 0 else x.y0) ≤ 255) ∧ (0 ≤ (if x.xo = true then 0 else x.y1) ∧ (if x.xo = true then 0 else x.y1) ≤ 255) := by
  obtain ⟨-, -, -, -, -, gy0, gy1, -⟩ := gx
  constructor <;> split <;> omega
theorem ov_hx (x : Sh) (c : Int) : heightR (shBl x) c = 1000 * (40 + x.xh) - c ∨ heightR (shBl x) c = 1000 * (40 + x.xh) - 2 * c := by
  show (if x.xo = true then 1000 * (40 + x.xh) - c else 1000 * (40 + x.xh) - c - c) = _ ∨ (if x.xo = true then 1000 * (40 + x.xh) - c else 1000 * (40 + x.xh) - c - c) = _
  split
  · exact .inl rfl
  · exact .inr (by omega)
theorem ov_hm (x : Sh) {c c' : Int} (h : c ≤ c') : heightR (shBl x) c' ≤ heightR (shBl x) c := by
  show (if x.xo = true then 1000 * (40 + x.xh) - c' else 1000 * (40 + x.xh) - c' - c') ≤ (if x.xo = true then 1000 * (40 + x.xh) - c else 1000 * (40 + x.xh) - c - c)
  split <;> omega
theorem ov_pm (b : Bl) (k : Nat) {c c' : Int} (h : c ≤ c') : panR b k c' ≤ panR b k c := by
  show 1000 * b.panels.getD k 0 - c' ≤ 1000 * b.panels.getD k 0 - c
  omega
theorem ov_cal (x : Sh) (gx : ShIn x) : 200 ≤ (shCal x).1 ∧ (shCal x).2 ≤ 7200 := by
  have ga : 0 ≤ x.ca ∧ x.ca ≤ 255 := gx.2.2.2.2.2.2.2.2.2.1
  have gb : 0 ≤ x.cb ∧ x.cb ≤ 255 := gx.2.2.2.2.2.2.2.2.2.2.1
  show 200 ≤ 1500 + 20 * x.ca ∧ 1500 + 20 * x.ca + 2 * x.cb ≤ 7200
  omega
theorem ov_up {n : Int} (h : 0 ≤ n ∧ n ≤ 2000000) : 0 ≤ n ∧ n ≤ 3000000 := by omega
theorem ov_p4 {n : Int} (h : 0 ≤ n ∧ n ≤ 255) : 1 ≤ 60 + n ∧ 60 + n ≤ 400 := by omega
theorem ov_sub {a b le : Int} (h : a ≤ b) (g : 0 ≤ le) : a - le ≤ b := by omega
theorem over_law (x y : Sh) (gx : ShIn x) (gy : ShIn y) (v0 v1 v2 v3 : Int) (gv0 : 0 ≤ v0 ∧ v0 ≤ 255) (gv1 : 0 ≤ v1 ∧ v1 ≤ 255) (gv2 : 0 ≤ v2 ∧ v2 ≤ 255) (gv3 : 0 ≤ v3 ∧ v3 ≤ 255) (w : World) : Calls Try.prog 6 #[.agg #[.int .u8 x.x0, .int .u8 x.x1, .int .u8 x.x2, .int .u8 x.x3, .int .u8 x.xh, .int .u8 x.y0, .int .u8 x.y1, .int .u8 x.y2, .int .u8 x.y3, .bool x.xo, .int .u8 x.ca, .int .u8 x.cb, .int .u8 x.v0, .int .u8 x.v1, .int .u8 x.v2, .int .u8 x.v3, .int .u8 x.v4], .agg #[.int .u8 y.x0, .int .u8 y.x1, .int .u8 y.x2, .int .u8 y.x3, .int .u8 y.xh, .int .u8 y.y0, .int .u8 y.y1, .int .u8 y.y2, .int .u8 y.y3, .bool y.xo, .int .u8 y.ca, .int .u8 y.cb, .int .u8 y.v0, .int .u8 y.v1, .int .u8 y.v2, .int .u8 y.v3, .int .u8 y.v4], .agg #[.int .u8 v0, .int .u8 v1, .int .u8 v2, .int .u8 v3]] w (fun e w' => e = .returned (.bool true) ∧ Below w.heap.size w w') := by
  have hckb := shBl_ok gx
  have hckd := shBl_ok gy
  obtain ⟨c1, c2, c3⟩ := shCal_in gx
  obtain ⟨c4, c5, c6⟩ := shCal_in gy
  obtain ⟨j1, j3⟩ := ov_cal x gx
  obtain ⟨k1, -⟩ := ov_cal y gy
  obtain ⟨le, hle⟩ : ∃ o, v0 % 100 = o := ⟨_, rfl⟩
  obtain ⟨mo, hmo⟩ : ∃ o, v1 % 40 = o := ⟨_, rfl⟩
  have gle := ov_rem hle (.inl rfl)
  have gmo := ov_rem hmo (.inr rfl)
  obtain ⟨gt0, gt1⟩ := ov_top x gx
  have hoo : x.xo = true → (if x.xo = true then 0 else x.y0) = 0 ∧ (if x.xo = true then 0 else x.y1) = 0 := fun e => by rw [if_pos e, if_pos e]; exact ⟨rfl, rfl⟩
  obtain ⟨t0, ht0⟩ : ∃ t, (if x.xo = true then 0 else x.y0) = t := ⟨_, rfl⟩
  obtain ⟨t1, ht1⟩ : ∃ t, (if x.xo = true then 0 else x.y1) = t := ⟨_, rfl⟩
  have hbl : shBl x = ⟨30, [60 + x.x0, 60 + x.x1, 60 + x.x2, 60 + x.x3], 40 + x.xh, [t0, t1], [x.y2, x.y3], 9, x.xo⟩ := by rw [← ht0, ← ht1]; rfl
  rw [ht0] at gt0 hoo; rw [ht1] at gt1 hoo
  obtain ⟨lg, hlg⟩ : ∃ s : Bl, s = ⟨30, [60 + x.x0 + mo, 60 + x.x1 + mo, 60 + x.x2 + mo, 60 + x.x3 + mo], 40 + x.xh, [t0, t1], [x.y2, x.y3], 9, x.xo⟩ := ⟨_, rfl⟩
  have hcklg : checkErr lg = 0 := by rw [hlg]; exact ov_lg x gx gmo gt0 gt1 hoo
  have hlp : ∀ i, i < 4 → lg.panels.getD i 0 = (shBl x).panels.getD i 0 + mo := by
    intro i hi
    rw [hlg]
    match i, hi with
    | 0, _ => rfl
    | 1, _ => rfl
    | 2, _ => rfl
    | 3, _ => rfl
  have hpn := fun (i : Nat) (hi : i < 4) => sh_pan x gx hi
  have hpd := fun (i : Nat) (hi : i < 4) => sh_pan y gy hi
  have e0 := mic_pan (shBl x) (shCal x).2 (show 0 < 4 by decide); have e1 := mic_pan (shBl x) (shCal x).2 (show 1 < 4 by decide); have e2 := mic_pan (shBl x) (shCal x).2 (show 2 < 4 by decide); have e3 := mic_pan (shBl x) (shCal x).2 (show 3 < 4 by decide)
  have e4 := mic_high (shBl x) (shCal x).2
  have j2 : 200 ≤ (shCal x).2 := Int.le_trans j1 c2
  have b0 : 0 ≤ mic (shBl x) (shCal x).2 0 ∧ mic (shBl x) (shCal x).2 0 ≤ 2000000 := by rw [e0]; exact ov_pan (hpn 0 (by decide)) j2 j3
  have b1 : 0 ≤ mic (shBl x) (shCal x).2 1 ∧ mic (shBl x) (shCal x).2 1 ≤ 2000000 := by rw [e1]; exact ov_pan (hpn 1 (by decide)) j2 j3
  have b2 : 0 ≤ mic (shBl x) (shCal x).2 2 ∧ mic (shBl x) (shCal x).2 2 ≤ 2000000 := by rw [e2]; exact ov_pan (hpn 2 (by decide)) j2 j3
  have b3 : 0 ≤ mic (shBl x) (shCal x).2 3 ∧ mic (shBl x) (shCal x).2 3 ≤ 2000000 := by rw [e3]; exact ov_pan (hpn 3 (by decide)) j2 j3
  have b4 : 0 ≤ mic (shBl x) (shCal x).2 4 ∧ mic (shBl x) (shCal x).2 4 ≤ 2000000 := by rw [e4]; exact ov_high (ov_hx x _) gx.2.2.2.2.1 j2 j3
  have hmb : ∀ k, k < 5 → 0 ≤ mic (shBl x) (shCal x).2 k ∧ mic (shBl x) (shCal x).2 k ≤ 3000000 := by
    intro k hk
    match k, hk with
    | 0, _ => exact ov_up b0
    | 1, _ => exact ov_up b1
    | 2, _ => exact ov_up b2
    | 3, _ => exact ov_up b3
    | 4, _ => exact ov_up b4
  obtain ⟨th0, hth0⟩ : ∃ o, dn (min (mic (shBl x) (shCal x).2 0) (mic (shBl x) (shCal x).2 2)) = o := ⟨_, rfl⟩
  obtain ⟨th1, hth1⟩ : ∃ o, dn (min (mic (shBl x) (shCal x).2 1) (mic (shBl x) (shCal x).2 3)) = o := ⟨_, rfl⟩
  obtain ⟨th2, hth2⟩ : ∃ o, dn (mic (shBl x) (shCal x).2 4) = o := ⟨_, rfl⟩
  have f0 := ov_in hth0; have f1 := ov_in hth1; have f2 := ov_in1 hth2
  have d0 := ov_th hth0 b0 b2; have d1 := ov_th hth1 b1 b3; have d2 := ov_th1 hth2 b4
  rw [e0, e2] at f0; rw [e1, e3] at f1; rw [e4] at f2
  have hl := ov_sub c2 gle.1
  have r0 := ov_min (ov_pm (shBl x) 0 c2) (ov_pm (shBl x) 2 c2); have r1 := ov_min (ov_pm (shBl x) 1 c2) (ov_pm (shBl x) 3 c2); have r2 := ov_hm x c2
  have s0 := ov_min (ov_pm (shBl x) 0 hl) (ov_pm (shBl x) 2 hl); have s1 := ov_min (ov_pm (shBl x) 1 hl) (ov_pm (shBl x) 3 hl); have s2 := ov_hm x hl
  have l0 := ov_less f0.1 d0.1 gv2.1; have l1 := ov_less f1.1 d1.1 gv3.1
  exact over_main x y gx gy v0 v1 v2 v3 gv0 gv1 gv2 gv3 (shBl x) (shBl y) lg _ _ _ _ _ t0 t1 _ _ x.xo (shCal x).1 (shCal x).2 (shCal y).1 (shCal y).2 le mo th0 th1 th2
    (playL (shBl x) (shBl y) ((shCal x).1, (shCal x).2) ((shCal y).1, (shCal y).2)) (playL lg (shBl y) ((shCal x).1 - le, (shCal x).2 - le) ((shCal y).1, (shCal y).2)) (playL (shBl x) (shBl y) ((shCal x).1, (shCal x).2) ((shCal y).1 - le, (shCal y).2 - le)) w
    rfl rfl rfl rfl hbl hlg hle hmo hckb hckd hcklg (ov_p4 gx.1) (ov_p4 gx.2.1) (ov_p4 gx.2.2.1) (ov_p4 gx.2.2.2.1) j1 c2 c3 k1 c5 c6 rfl rfl rfl (play_len hckb hckd) (play_len hcklg hckd) (play_len hckb hckd)
    (fun i hi => by rw [play_nth hckb hckd hi]; exact ov_le c2 c5) (fun i hi => by rw [play_nth hckb hckd hi]; exact ov_bd (hpn i hi) (hpd i hi) c1 c2 c3 c4 c5 c6)
    (fun i hi => by rw [play_nth hcklg hckd hi, play_nth hckb hckd hi, hlp i hi]; exact Prod.ext ov_m ov_m)
    (fun i hi => by rw [play_nth hckb hckd hi, play_nth hckb hckd hi]; exact Prod.ext ov_n ov_n)
    (by show 4 ≤ 1000; decide) (by show 2 ≤ 1000; decide) (by show 2 ≤ 1000; decide) (by show 4 ≤ 1000; decide) (by show 2 ≤ 1000; decide) (by show 2 ≤ 1000; decide)
    hmb hth0 hth1 hth2 d0 d1 d2 (inside_yes f0.1 f1.1 f2.1) (inside_yes (Int.le_trans f0.1 r0) (Int.le_trans f1.1 r1) (Int.le_trans f2.1 r2)) (inside_yes2 f2.1 l0 l1) (inside_yes2 (Int.le_trans f2.1 s2) (Int.le_trans l0 s0) (Int.le_trans l1 s1)) (inside_no f0.2 f1.2 f2.2)
end Go.Proofs.Ythnediamopehfaa
namespace Go.Proofs.Ythnediamopehfaa
open Go.ChangeShapes Go.WideShapes Go.ChangeAt Go.RowKit
end Go.Proofs.Ythnediamopehfaa
namespace Go.Proofs.Ythnediamopehfaa
open Go.ChangeShapes Go.WideShapes Go.ChangeAt Go.RowKit
theorem okWide_arr {P : Program} {w : World} {r : Reach} {base : Nat} {t e : TypeId} {n : Nat} {v : Value} (ht : P.underlying t = some (.array n e)) (h : Value.okWide P w r base t v) : ∃ cs, v = .agg cs ∧ cs.size = P.cellsOf t := by
  simp only [Value.okWide, ht] at h
  obtain ⟨cs, h1, h2, _⟩ := h
  exact ⟨cs, h1, h2⟩
end Go.Proofs.Ythnediamopehfaa
namespace Go.Proofs.Ythnediamopehfaa
open Go.ChangeShapes Go.WideShapes Go.ChangeAt Go.RowKit
theorem bounds_u8 {n : Int} (h : (Lit.int .u8 n).wf = true) : 0 ≤ n ∧ n ≤ 255 := by
  simp only [Lit.wf, Bool.and_eq_true, decide_eq_true_eq] at h
  exact h
/-- Small whole numbers in an array: each cell is one. -/
theorem open_arr {k : IntKind} {e : TypeId} {H : Type} {enc : TypeId × Value → H} {W : World} {spare : Nat → Bool} {held : Bool} {fuel n : Nat} {t : TypeId} {cs : List Value} {y : DataW H × List MemPlace} (he : Try.prog.underlying e = some (.int k)) (hc : Try.prog.cellsOf e = 1) (ht : Try.prog.underlying t = some (.array n e)) (hf : DataW.trod enc Try.prog W 0 spare held fuel t cs = some y) (hn : cs.length = n) :
    ∀ i, i < n → ∃ x, cs[i]? = some (.int k x) ∧ (Lit.int k x).wf = true := by
  obtain ⟨xs, m, _, _, hl, hlen, hel⟩ := DataW.trod_array ht hf
  intro i hi
  have f := hel i hi
  rw [hc, Nat.mul_one] at f
  rw [List.getElem?_eq_getElem (by omega : i < xs.length)] at f
  obtain ⟨x, q, -, wf⟩ := DataW.trod_int he f
  refine ⟨x, ?_, wf⟩
  have h1 : ((cs.drop i).take 1)[0]? = some (.int k x) := by rw [q]; rfl
  simpa using h1
set_option maxRecDepth 100000 in
theorem open_sheet {H : Type} {enc : TypeId × Value → H} {W : World} {r : Reach} {b0 : Nat} {spare : Nat → Bool} {held : Bool} {v : Value} {d : DataW H} {ps : List MemPlace}
    (hv : Value.okWide Try.prog W r b0 56 v) (h : DataW.Trod enc Try.prog W 0 spare held 56 v d ps) :
    ∃ x : Sh, v = .agg #[.int .u8 x.x0, .int .u8 x.x1, .int .u8 x.x2, .int .u8 x.x3, .int .u8 x.xh, .int .u8 x.y0, .int .u8 x.y1, .int .u8 x.y2, .int .u8 x.y3, .bool x.xo, .int .u8 x.ca, .int .u8 x.cb, .int .u8 x.v0, .int .u8 x.v1, .int .u8 x.v2, .int .u8 x.v3, .int .u8 x.v4] ∧ ShIn x := by
  obtain ⟨cs, rfl, hsz⟩ := okWide_struct Try.underlying56 hv
  obtain ⟨fuel, hf⟩ := h
  obtain ⟨xs, n, _, _, hl, hlen, hfld⟩ := DataW.trod_struct Try.underlying56 hf
  have e17 : Try.prog.cellsOf 56 = 17 := by kernel_rfl
  rw [e17] at hsz
  have a4 : Try.prog.cellsOf 52 = 4 := by kernel_rfl
  have a2 : Try.prog.cellsOf 53 = 2 := by kernel_rfl
  have a5 : Try.prog.cellsOf 54 = 5 := by kernel_rfl
  have u1 : Try.prog.cellsOf 5 = 1 := by kernel_rfl
  have o1 : Try.prog.cellsOf 4 = 1 := by kernel_rfl
  obtain ⟨l⟩ := cs
  match l, hsz with
  | [c0, c1, c2, c3, c4, c5, c6, c7, c8, c9, c10, c11, c12, c13, c14, c15, c16], _ =>
    match xs, hlen with
    | [y0, y1, y2, y3, y4, y5], _ =>
      have f0 : DataW.trod enc Try.prog W 0 spare held n 52 ((List.drop 0 [c0, c1, c2, c3, c4, c5, c6, c7, c8, c9, c10, c11, c12, c13, c14, c15, c16]).take (Try.prog.cellsOf 52)) = some y0 := hfld 0 _ rfl
      have f1 : DataW.trod enc Try.prog W 0 spare held n 5 ((List.drop 4 [c0, c1, c2, c3, c4, c5, c6, c7, c8, c9, c10, c11, c12, c13, c14, c15, c16]).take (Try.prog.cellsOf 5)) = some y1 := hfld 1 _ rfl
      have f2 : DataW.trod enc Try.prog W 0 spare held n 52 ((List.drop 5 [c0, c1, c2, c3, c4, c5, c6, c7, c8, c9, c10, c11, c12, c13, c14, c15, c16]).take (Try.prog.cellsOf 52)) = some y2 := hfld 2 _ rfl
      have f3 : DataW.trod enc Try.prog W 0 spare held n 4 ((List.drop 9 [c0, c1, c2, c3, c4, c5, c6, c7, c8, c9, c10, c11, c12, c13, c14, c15, c16]).take (Try.prog.cellsOf 4)) = some y3 := hfld 3 _ rfl
      have f4 : DataW.trod enc Try.prog W 0 spare held n 53 ((List.drop 10 [c0, c1, c2, c3, c4, c5, c6, c7, c8, c9, c10, c11, c12, c13, c14, c15, c16]).take (Try.prog.cellsOf 53)) = some y4 := hfld 4 _ rfl
      have f5 : DataW.trod enc Try.prog W 0 spare held n 54 ((List.drop 12 [c0, c1, c2, c3, c4, c5, c6, c7, c8, c9, c10, c11, c12, c13, c14, c15, c16]).take (Try.prog.cellsOf 54)) = some y5 := hfld 5 _ rfl
      rw [a4] at f0; change DataW.trod enc Try.prog W 0 spare held n 52 [c0, c1, c2, c3] = some y0 at f0
      rw [u1] at f1; change DataW.trod enc Try.prog W 0 spare held n 5 [c4] = some y1 at f1
      rw [a4] at f2; change DataW.trod enc Try.prog W 0 spare held n 52 [c5, c6, c7, c8] = some y2 at f2
      rw [o1] at f3; change DataW.trod enc Try.prog W 0 spare held n 4 [c9] = some y3 at f3
      rw [a2] at f4; change DataW.trod enc Try.prog W 0 spare held n 53 [c10, c11] = some y4 at f4
      rw [a5] at f5; change DataW.trod enc Try.prog W 0 spare held n 54 [c12, c13, c14, c15, c16] = some y5 at f5
      have A0 := open_arr Try.underlying5 u1 Try.underlying52 f0 rfl
      have A2 := open_arr Try.underlying5 u1 Try.underlying52 f2 rfl
      have A4 := open_arr Try.underlying5 u1 Try.underlying53 f4 rfl
      have A5 := open_arr Try.underlying5 u1 Try.underlying54 f5 rfl
      obtain ⟨x0, e0, g0⟩ := A0 0 (by decide)
      obtain ⟨x1, e1, g1⟩ := A0 1 (by decide)
      obtain ⟨x2, e2, g2⟩ := A0 2 (by decide)
      obtain ⟨x3, e3, g3⟩ := A0 3 (by decide)
      obtain ⟨xh, e4, -, g4⟩ := DataW.trod_int Try.underlying5 f1
      obtain ⟨z0, e5, g5⟩ := A2 0 (by decide)
      obtain ⟨z1, e6, g6⟩ := A2 1 (by decide)
      obtain ⟨z2, e7, g7⟩ := A2 2 (by decide)
      obtain ⟨z3, e8, g8⟩ := A2 3 (by decide)
      obtain ⟨xo, e9, -⟩ := DataW.trod_bool Try.underlying4 f3
      obtain ⟨ca, e10, g10⟩ := A4 0 (by decide)
      obtain ⟨cb, e11, g11⟩ := A4 1 (by decide)
      obtain ⟨v0, e12, g12⟩ := A5 0 (by decide)
      obtain ⟨v1, e13, g13⟩ := A5 1 (by decide)
      obtain ⟨v2, e14, g14⟩ := A5 2 (by decide)
      obtain ⟨v3, e15, g15⟩ := A5 3 (by decide)
      obtain ⟨v4, e16, g16⟩ := A5 4 (by decide)
      obtain rfl := Option.some.inj e0
      obtain rfl := Option.some.inj e1
      obtain rfl := Option.some.inj e2
      obtain rfl := Option.some.inj e3
      obtain rfl := (List.cons.inj e4).1
      obtain rfl := Option.some.inj e5
      obtain rfl := Option.some.inj e6
      obtain rfl := Option.some.inj e7
      obtain rfl := Option.some.inj e8
      obtain rfl := (List.cons.inj e9).1
      obtain rfl := Option.some.inj e10
      obtain rfl := Option.some.inj e11
      obtain rfl := Option.some.inj e12
      obtain rfl := Option.some.inj e13
      obtain rfl := Option.some.inj e14
      obtain rfl := Option.some.inj e15
      obtain rfl := Option.some.inj e16
      exact ⟨⟨x0, x1, x2, x3, xh, z0, z1, z2, z3, xo, ca, cb, v0, v1, v2, v3, v4⟩, rfl, bounds_u8 g0, bounds_u8 g1, bounds_u8 g2, bounds_u8 g3, bounds_u8 g4, bounds_u8 g5, bounds_u8 g6, bounds_u8 g7, bounds_u8 g8, bounds_u8 g10, bounds_u8 g11, bounds_u8 g12, bounds_u8 g13, bounds_u8 g14, bounds_u8 g15, bounds_u8 g16⟩
end Go.Proofs.Ythnediamopehfaa
namespace Go.Proofs.Ythnediamopehfaa
open Go.ChangeShapes Go.WideShapes Go.ChangeAt Go.RowKit
set_option maxRecDepth 100000 in
theorem open_v4 {H : Type} {enc : TypeId × Value → H} {W : World} {r : Reach} {b0 : Nat} {spare : Nat → Bool} {held : Bool} {v : Value} {d : DataW H} {ps : List MemPlace}
    (hv : Value.okWide Try.prog W r b0 52 v) (h : DataW.Trod enc Try.prog W 0 spare held 52 v d ps) :
    ∃ ws : Nat → Int, v = .agg #[.int .u8 (ws 0), .int .u8 (ws 1), .int .u8 (ws 2), .int .u8 (ws 3)] ∧ ∀ j, j < 4 → 0 ≤ ws j ∧ ws j ≤ 255 := by
  obtain ⟨cs, rfl, hsz⟩ := okWide_arr Try.underlying52 hv
  obtain ⟨fuel, hf⟩ := h
  have en : Try.prog.cellsOf 52 = 4 := by kernel_rfl
  have u1 : Try.prog.cellsOf 5 = 1 := by kernel_rfl
  rw [en] at hsz
  obtain ⟨l⟩ := cs
  match l, hsz with
  | [c0, c1, c2, c3], _ =>
    have A0 := open_arr (cs := [c0, c1, c2, c3]) Try.underlying5 u1 Try.underlying52 hf rfl
    obtain ⟨w0, e0, g0⟩ := A0 0 (by decide)
    obtain ⟨w1, e1, g1⟩ := A0 1 (by decide)
    obtain ⟨w2, e2, g2⟩ := A0 2 (by decide)
    obtain ⟨w3, e3, g3⟩ := A0 3 (by decide)
    obtain rfl := Option.some.inj e0
    obtain rfl := Option.some.inj e1
    obtain rfl := Option.some.inj e2
    obtain rfl := Option.some.inj e3
    refine ⟨fun j => [w0, w1, w2, w3].getD j 0, rfl, fun j hj => ?_⟩
    match j, hj with
    | 0, _ => exact bounds_u8 g0
    | 1, _ => exact bounds_u8 g1
    | 2, _ => exact bounds_u8 g2
    | 3, _ => exact bounds_u8 g3
end Go.Proofs.Ythnediamopehfaa
