/- Part of the proof: what the claim leans on. -/
import Derived.Test.YtolnpbpeifpbjaaQAQ
import Derived.Test.YtolnpbpeifpbjaaQAH
import Derived.ProofKit
import Derived.OpenShut
import Derived.ChangeOld
import Derived.Below
import Derived.Test.YtolnpbpeifpbjaaQAD
import Derived.Test.YtolnpbpeifpbjaaQAG
set_option linter.unusedSimpArgs false
set_option linter.unusedVariables false
namespace Go.Proofs.Ytolnpbpeifpbjaa
open Go.RowKit
/-- What Each returns: a price and a number, each divided by what divides both. -/
theorem each_nums {p n : Int} {pn nn : Nat} (hp : (pn : Int) = p) (hn : (nn : Int) = n) (gp : 0 ≤ p ∧ p ≤ 600000000001) (gn : 1 ≤ n ∧ n ≤ 100000) :
    (1 ≤ ((Nat.gcd pn nn : Nat) : Int) ∧ ((Nat.gcd pn nn : Nat) : Int) ≤ 100000) ∧ (0 ≤ p / ((Nat.gcd pn nn : Nat) : Int) ∧ p / ((Nat.gcd pn nn : Nat) : Int) ≤ 600000000001) ∧ (0 ≤ n / ((Nat.gcd pn nn : Nat) : Int) ∧ n / ((Nat.gcd pn nn : Nat) : Int) ≤ 100000) ∧
      p / ((Nat.gcd pn nn : Nat) : Int) ≤ p ∧ 1 ≤ n / ((Nat.gcd pn nn : Nat) : Int) ∧ n / ((Nat.gcd pn nn : Nat) : Int) ≤ n ∧ (p / ((Nat.gcd pn nn : Nat) : Int)) * n = p * (n / ((Nat.gcd pn nn : Nat) : Int)) ∧
      (-9223372036854775808 ≤ p * (n / ((Nat.gcd pn nn : Nat) : Int)) ∧ p * (n / ((Nat.gcd pn nn : Nat) : Int)) ≤ 9223372036854775807) := by
  have hg : 0 < Nat.gcd pn nn := Nat.gcd_pos_of_pos_right _ (by omega)
  have hgn : Nat.gcd pn nn ≤ nn := Nat.gcd_le_right _ (by omega)
  have d1 : ((Nat.gcd pn nn : Nat) : Int) ∣ p := by rw [← hp]; exact Int.natCast_dvd_natCast.2 (Nat.gcd_dvd_left _ _)
  have d2 : ((Nat.gcd pn nn : Nat) : Int) ∣ n := by rw [← hn]; exact Int.natCast_dvd_natCast.2 (Nat.gcd_dvd_right _ _)
  generalize hG : ((Nat.gcd pn nn : Nat) : Int) = G at *
  obtain ⟨x, hx⟩ := d1
  obtain ⟨y, hy⟩ := d2
  have hG0 : 1 ≤ G := by omega
  have ex : p / G = x := by rw [hx]; exact Int.mul_ediv_cancel_left _ (by omega)
  have ey : n / G = y := by rw [hy]; exact Int.mul_ediv_cancel_left _ (by omega)
  have lx : p / G ≤ p := Int.ediv_le_self _ gp.1
  have ly : n / G ≤ n := Int.ediv_le_self _ (by omega)
  have px : 0 ≤ p / G := Int.ediv_nonneg gp.1 (by omega)
  have py : 0 ≤ n / G := Int.ediv_nonneg (by omega) (by omega)
  have py1 : 1 ≤ n / G := by
    rcases Int.lt_or_le (n / G) 1 with h | h
    · have h0 : y = 0 := by omega
      rw [h0, Int.mul_zero] at hy; omega
    · exact h
  have hb := pr_mul (a := p) (b := n / G) (A := 600000000001) (B := 100000) gp ⟨py, by omega⟩
  refine ⟨⟨hG0, by omega⟩, ⟨px, by omega⟩, ⟨py, by omega⟩, lx, py1, ly, ?_, by omega⟩
  rw [ex, ey, hx, hy, Int.mul_comm G x, Int.mul_assoc, Int.mul_comm G y, Int.mul_comm y G]
theorem most_bd {q : Qu} (hq : QuIn q) {mo an : Int} (h : MostAt q mo an) : 1 ≤ an ∧ an ≤ 100000 := by
  have := hq.sf
  rcases h with ⟨h1, -⟩ | ⟨h0, -, h1, -⟩ <;> omega
theorem area_of {fv : Nat → Int} (gfv : ∀ k, 0 ≤ fv k ∧ fv k ≤ 255) {mo : Int} (hmo : 0 ≤ mo ∧ mo ≤ 50) : (1 ≤ acrossOf (boxB fv mo) ∧ acrossOf (boxB fv mo) ≤ 1500) ∧ (1 ≤ alongOf (boxB fv mo) ∧ alongOf (boxB fv mo) ≤ 660) ∧ acrossOf (boxB fv mo) = acrossOf (boxB fv 0) + 4 * mo ∧ alongOf (boxB fv mo) = alongOf (boxB fv 0) + mo := by
  have g18 := gfv 18; have g19 := gfv 19; have g20 := gfv 20; have g21 := gfv 21; have g22 := gfv 22; have g23 := gfv 23
  have e1 : ∀ m, acrossOf (boxB fv m) = fv 20 % 50 + ((60 + fv 18) + m) + ((50 + fv 19) + m) + ((60 + fv 18) + m) + ((50 + fv 19) + m) := fun _ => rfl
  have e2 : ∀ m, alongOf (boxB fv m) = max ((50 + fv 19) / 2 + fv 22 % 3) ((50 + fv 19) / 2 + fv 22 % 3) + ((40 + fv 21) + m) + max ((50 + fv 19) / 2 + fv 22 % 3) ((50 + fv 19) / 2 + fv 22 % 3 + fv 23 % 4) := fun _ => rfl
  rw [e1, e2, e1, e2]
  omega
theorem quote_law {fv ws : Nat → Int} {mv : Int} (gfv : ∀ k, 0 ≤ fv k ∧ fv k ≤ 255) (gmv : 0 ≤ mv ∧ mv ≤ 255) (gws : ∀ k, 0 ≤ ws k ∧ ws k ≤ 255) (w : World) : Calls Try.prog 3 #[.agg #[.int .u8 ((fv 0)), .int .u8 ((fv 1)), .int .u8 ((fv 2)), .int .u8 ((fv 3)), .int .u8 ((fv 4)), .int .u8 ((fv 5)), .int .u8 ((fv 6)), .int .u8 ((fv 7)), .int .u8 ((fv 8)), .int .u8 ((fv 9)), .int .u8 ((fv 10)), .int .u8 ((fv 11)), .int .u8 ((fv 12)), .int .u8 ((fv 13)), .int .u8 ((fv 14)), .int .u8 ((fv 15)), .int .u8 ((fv 16)), .int .u8 ((fv 17)), .int .u8 ((fv 18)), .int .u8 ((fv 19)), .int .u8 ((fv 20)), .int .u8 ((fv 21)), .int .u8 ((fv 22)), .int .u8 ((fv 23)), .int .u8 ((fv 24))], .int .u8 mv, .agg #[.int .u8 (ws 0), .int .u8 (ws 1), .int .u8 (ws 2), .int .u8 (ws 3), .int .u8 (ws 4)]] w (fun e w' => e = .returned (.bool true) ∧ Below w.heap.size w w') := by
  have gm : 0 ≤ 1 + mv % 50 ∧ 1 + mv % 50 ≤ 50 := by omega
  have hck0 := boxB_ok gfv (mo := 0) (by omega)
  have hck1 := boxB_ok gfv (mo := 1 + mv % 50) (by omega)
  obtain ⟨a1, a2, -, -⟩ := area_of gfv (mo := 0) (by omega)
  obtain ⟨b1, b2, b3, b4⟩ := area_of gfv gm
  have hq := quB_in (gws 0) (gws 1) (gws 2) (gws 3)
  have g4 := gws 4
  have gn : 1 ≤ 1 + ws 4 * 7 ∧ 1 + ws 4 * 7 ≤ 100000 := by omega
  have hAB : acrossOf (boxB fv 0) * alongOf (boxB fv 0) < acrossOf (boxB fv (1 + mv % 50)) * alongOf (boxB fv (1 + mv % 50)) := by
    have h1 : acrossOf (boxB fv 0) * alongOf (boxB fv 0) ≤ acrossOf (boxB fv 0) * alongOf (boxB fv (1 + mv % 50)) := Int.mul_le_mul_of_nonneg_left (by omega) (by omega)
    have h2 : acrossOf (boxB fv 0) * alongOf (boxB fv (1 + mv % 50)) < acrossOf (boxB fv (1 + mv % 50)) * alongOf (boxB fv (1 + mv % 50)) := Int.mul_lt_mul_of_pos_right (by omega) (by omega)
    omega
  have gA0 : 1 ≤ acrossOf (boxB fv 0) * alongOf (boxB fv 0) ∧ acrossOf (boxB fv 0) * alongOf (boxB fv 0) ≤ 1000000 := ⟨Int.mul_pos (by omega) (by omega), Int.le_trans (Int.mul_le_mul a1.2 a2.2 (by omega) (by omega)) (by decide)⟩
  have gA1 : 1 ≤ acrossOf (boxB fv (1 + mv % 50)) * alongOf (boxB fv (1 + mv % 50)) ∧ acrossOf (boxB fv (1 + mv % 50)) * alongOf (boxB fv (1 + mv % 50)) ≤ 1000000 := ⟨Int.mul_pos (by omega) (by omega), Int.le_trans (Int.mul_le_mul b1.2 b2.2 (by omega) (by omega)) (by decide)⟩
  generalize hA0 : acrossOf (boxB fv 0) * alongOf (boxB fv 0) = A0 at *
  generalize hA1 : acrossOf (boxB fv (1 + mv % 50)) * alongOf (boxB fv (1 + mv % 50)) = A1 at *
  have hb0 : 1 ≤ (A0 + 99) / 100 ∧ (A0 + 99) / 100 ≤ 100000 := by omega
  have hb1 : 1 ≤ (A1 + 99) / 100 ∧ (A1 + 99) / 100 ≤ 100000 := by omega
  have hbb : (A0 + 99) / 100 ≤ (A1 + 99) / 100 := by omega
  have hq0 := quA_in hq hb0
  have hq1 := quA_in hq hb1
  generalize hbr0 : (A0 + 99) / 100 = r0 at *
  generalize hbr1 : (A1 + 99) / 100 = r1 at *
  have hN0 := (quNo hq0 gn).pr
  have hN1 := (quNo hq1 gn).pr
  have hpp : priceQ (quA (quB (ws 0) (ws 1) (ws 2) (ws 3)) r0) (1 + ws 4 * 7) ≤ priceQ (quA (quB (ws 0) (ws 1) (ws 2) (ws 3)) r1) (1 + ws 4 * 7) := price_mono hq hb0 hb1 hbb gn.1 (Int.le_refl _) gn.2 rfl
  generalize hp0 : priceQ (quA (quB (ws 0) (ws 1) (ws 2) (ws 3)) r0) (1 + ws 4 * 7) = p0 at *
  generalize hp1 : priceQ (quA (quB (ws 0) (ws 1) (ws 2) (ws 3)) r1) (1 + ws 4 * 7) = p1 at *
  obtain ⟨x1, m1, n1⟩ := most_of hq hb1 (mo := p1) gn (by rw [hp1]; exact Int.le_refl _)
  obtain ⟨x0, m0, n0⟩ := most_of hq hb0 (mo := p1) gn (by rw [hp0]; exact hpp)
  have hx := most_le hq hb0 hb1 hbb m0 m1
  have e0 : ((p0.toNat : Nat) : Int) = p0 := Int.toNat_of_nonneg hN0.1
  have e1 : ((p1.toNat : Nat) : Int) = p1 := Int.toNat_of_nonneg hN1.1
  have en : (((1 + ws 4 * 7).toNat : Nat) : Int) = 1 + ws 4 * 7 := Int.toNat_of_nonneg (by omega)
  obtain ⟨c1, c2, c3, c4, c5, c6, c7, c8⟩ := each_nums e0 en hN0 gn
  obtain ⟨d1, d2, d3, d4, d5, d6, d7, d8⟩ := each_nums e1 en hN1 gn
  exact quote_main fv mv (mv % 50) (ws 0) (ws 1) (ws 2) (ws 3) (ws 4) (quB (ws 0) (ws 1) (ws 2) (ws 3)) _ _ _ _ _ _ _ _ _ _ _ _ _ _ _ _ A0 r0 _ _ A1 r1 p0 p1 _ _ _ _ _ _ x0 x1 _ _ _ w gmv rfl g4 (box_ok gfv (by omega)) (box_ok gfv (by omega)) (fun W => pubQuote_own _ _ _ _ W (gws 0) (gws 1) (gws 2) (gws 3))
    hck0 rfl rfl hA0 gA0 hbr0 hq0 hp0 hN0 e0 rfl c1 rfl rfl c2 c3 c4 c5 c6 c7 c8 (most_bd hq0 m0) m0
    hck1 rfl rfl hA1 gA1 hbr1 hq1 hp1 hN1 e1 rfl d1 rfl rfl d2 d3 d4 d5 d6 d7 d8 (most_bd hq1 m1) m1 en hAB hpp hx n1
end Go.Proofs.Ytolnpbpeifpbjaa
namespace Go.Proofs.Ytolnpbpeifpbjaa
open Go.ChangeShapes Go.WideShapes Go.ChangeAt Go.RowKit
end Go.Proofs.Ytolnpbpeifpbjaa
namespace Go.Proofs.Ytolnpbpeifpbjaa
open Go.ChangeShapes Go.WideShapes Go.ChangeAt Go.RowKit
theorem okWide_arr {P : Program} {w : World} {r : Reach} {base : Nat} {t e : TypeId} {n : Nat} {v : Value} (ht : P.underlying t = some (.array n e)) (h : Value.okWide P w r base t v) : ∃ cs, v = .agg cs ∧ cs.size = P.cellsOf t := by
  simp only [Value.okWide, ht] at h
  obtain ⟨cs, h1, h2, _⟩ := h
  exact ⟨cs, h1, h2⟩
end Go.Proofs.Ytolnpbpeifpbjaa
namespace Go.Proofs.Ytolnpbpeifpbjaa
open Go.ChangeShapes Go.WideShapes Go.ChangeAt Go.RowKit
theorem bounds_u8 {n : Int} (h : (Lit.int .u8 n).wf = true) : 0 ≤ n ∧ n ≤ 255 := by
  simp only [Lit.wf, Bool.and_eq_true, decide_eq_true_eq] at h
  exact h
/-- Small whole numbers in an array: each cell is one. -/
theorem open_arr {k : IntKind} {e : TypeId} {H : Type} {enc : TypeId × Value → H} {W : World} {spare : Nat → Bool} {held : Bool} {fuel n : Nat} {t : TypeId} {cs : List Value} {y : DataW H × List MemPlace} (he : Try.prog.underlying e = some (.int k)) (hc : Try.prog.cellsOf e = 1) (ht : Try.prog.underlying t = some (.array n e)) (hf : DataW.trod enc Try.prog W 0 spare held fuel t cs = some y) (hn : cs.length = n) :
    ∀ i, i < n → ∃ x, cs[i]? = some (.int k x) ∧ (Lit.int k x).wf = true := by
  obtain ⟨xs, m, _, _, hl, hlen, hel⟩ := DataW.trod_array ht hf
  intro i hi
  have f := hel i hi
  rw [hc, Nat.mul_one] at f
  rw [List.getElem?_eq_getElem (by omega : i < xs.length)] at f
  obtain ⟨x, q, -, wf⟩ := DataW.trod_int he f
  refine ⟨x, ?_, wf⟩
  have h1 : ((cs.drop i).take 1)[0]? = some (.int k x) := by rw [q]; rfl
  simpa using h1
end Go.Proofs.Ytolnpbpeifpbjaa
namespace Go.Proofs.Ytolnpbpeifpbjaa
open Go.RowKit
end Go.Proofs.Ytolnpbpeifpbjaa
namespace Go.Proofs.Ytolnpbpeifpbjaa
open Go.RowKit
end Go.Proofs.Ytolnpbpeifpbjaa
namespace Go.Proofs.Ytolnpbpeifpbjaa
open Go.ChangeShapes Go.WideShapes Go.ChangeAt Go.RowKit
/-- Small whole numbers in an array of arrays: each cell is one. -/
theorem open_arr2 {k : IntKind} {e e2 : TypeId} {H : Type} {enc : TypeId × Value → H} {W : World} {spare : Nat → Bool} {held : Bool} {fuel n m : Nat} {t : TypeId} {cs : List Value} {y : DataW H × List MemPlace} (he : Try.prog.underlying e = some (.int k)) (hc : Try.prog.cellsOf e = 1) (he2 : Try.prog.underlying e2 = some (.array m e)) (hc2 : Try.prog.cellsOf e2 = m) (ht : Try.prog.underlying t = some (.array n e2)) (hf : DataW.trod enc Try.prog W 0 spare held fuel t cs = some y) (hn : cs.length = n * m) :
    ∀ i j, i < n → j < m → ∃ x, cs[i * m + j]? = some (.int k x) ∧ (Lit.int k x).wf = true := by
  obtain ⟨xs, m', _, _, hl, hlen, hel⟩ := DataW.trod_array ht hf
  intro i j hi hj
  have f := hel i hi
  rw [hc2, List.getElem?_eq_getElem (by omega : i < xs.length)] at f
  have hle : (i + 1) * m ≤ n * m := Nat.mul_le_mul_right m hi
  rw [Nat.add_mul, Nat.one_mul] at hle
  obtain ⟨x, e1, w⟩ := open_arr he hc he2 f (by rw [List.length_take, List.length_drop]; omega) j hj
  refine ⟨x, ?_, w⟩
  rw [List.getElem?_take_of_lt hj, List.getElem?_drop] at e1
  exact e1
set_option maxRecDepth 100000 in
theorem open_fold {H : Type} {enc : TypeId × Value → H} {W : World} {r : Reach} {b0 : Nat} {spare : Nat → Bool} {held : Bool} {v : Value} {d : DataW H} {ps : List MemPlace}
    (hv : Value.okWide Try.prog W r b0 28 v) (h : DataW.Trod enc Try.prog W 0 spare held 28 v d ps) :
    ∃ fv : Nat → Int, v = .agg #[.int .u8 (fv 0), .int .u8 (fv 1), .int .u8 (fv 2), .int .u8 (fv 3), .int .u8 (fv 4), .int .u8 (fv 5), .int .u8 (fv 6), .int .u8 (fv 7), .int .u8 (fv 8), .int .u8 (fv 9), .int .u8 (fv 10), .int .u8 (fv 11), .int .u8 (fv 12), .int .u8 (fv 13), .int .u8 (fv 14), .int .u8 (fv 15), .int .u8 (fv 16), .int .u8 (fv 17), .int .u8 (fv 18), .int .u8 (fv 19), .int .u8 (fv 20), .int .u8 (fv 21), .int .u8 (fv 22), .int .u8 (fv 23), .int .u8 (fv 24)] ∧ ∀ k, 0 ≤ fv k ∧ fv k ≤ 255 := by
  obtain ⟨cs, rfl, hsz⟩ := okWide_struct Try.underlying28 hv
  obtain ⟨fuel, hf⟩ := h
  obtain ⟨xs, n, _, _, hl, hlen, hfld⟩ := DataW.trod_struct Try.underlying28 hf
  have e25 : Try.prog.cellsOf 28 = 25 := by kernel_rfl
  rw [e25] at hsz
  have c12 : Try.prog.cellsOf 23 = 12 := by kernel_rfl
  have c4 : Try.prog.cellsOf 22 = 4 := by kernel_rfl
  have c6 : Try.prog.cellsOf 25 = 6 := by kernel_rfl
  have c3 : Try.prog.cellsOf 24 = 3 := by kernel_rfl
  have c7 : Try.prog.cellsOf 26 = 7 := by kernel_rfl
  have u1 : Try.prog.cellsOf 5 = 1 := by kernel_rfl
  obtain ⟨l⟩ := cs
  have hl25 : l.length = 25 := hsz
  match xs, hlen with
  | [y0, y1, y2], _ =>
    have f0 : DataW.trod enc Try.prog W 0 spare held n 23 ((l.drop 0).take (Try.prog.cellsOf 23)) = some y0 := hfld 0 _ rfl
    have f1 : DataW.trod enc Try.prog W 0 spare held n 25 ((l.drop 12).take (Try.prog.cellsOf 25)) = some y1 := hfld 1 _ rfl
    have f2 : DataW.trod enc Try.prog W 0 spare held n 26 ((l.drop 18).take (Try.prog.cellsOf 26)) = some y2 := hfld 2 _ rfl
    rw [c12] at f0
    rw [c6] at f1
    rw [c7] at f2
    have A0 := open_arr2 Try.underlying5 u1 Try.underlying22 c4 Try.underlying23 f0 (by rw [List.length_take, List.length_drop]; omega)
    have A1 := open_arr2 Try.underlying5 u1 Try.underlying24 c3 Try.underlying25 f1 (by rw [List.length_take, List.length_drop]; omega)
    have A2 := open_arr Try.underlying5 u1 Try.underlying26 f2 (by rw [List.length_take, List.length_drop]; omega)
    have key : ∀ i, i < 25 → ∃ x, l[i]? = some (.int .u8 x) ∧ 0 ≤ x ∧ x ≤ 255 := by
      intro i hi
      by_cases h1 : i < 12
      · obtain ⟨x, e, w⟩ := A0 (i / 4) (i % 4) (by omega) (by omega)
        refine ⟨x, ?_, bounds_u8 w⟩
        rw [show i / 4 * 4 + i % 4 = i by omega, List.getElem?_take_of_lt h1, List.getElem?_drop, Nat.zero_add] at e
        exact e
      · by_cases h2 : i < 18
        · obtain ⟨x, e, w⟩ := A1 ((i - 12) / 3) ((i - 12) % 3) (by omega) (by omega)
          refine ⟨x, ?_, bounds_u8 w⟩
          rw [show (i - 12) / 3 * 3 + (i - 12) % 3 = i - 12 by omega, List.getElem?_take_of_lt (by omega), List.getElem?_drop, show 12 + (i - 12) = i by omega] at e
          exact e
        · obtain ⟨x, e, w⟩ := A2 (i - 18) (by omega)
          refine ⟨x, ?_, bounds_u8 w⟩
          rw [List.getElem?_take_of_lt (by omega), List.getElem?_drop, show 18 + (i - 18) = i by omega] at e
          exact e
    obtain ⟨fv, hfv⟩ : ∃ fv : Nat → Int, (∀ i, i < 25 → l[i]? = some (.int .u8 (fv i))) ∧ ∀ k, 0 ≤ fv k ∧ fv k ≤ 255 := by
      refine ⟨fun i => if h : i < 25 then Classical.choose (key i h) else 0, fun i hi => ?_, fun k => ?_⟩
      · simp only [dif_pos hi]; exact (Classical.choose_spec (key i hi)).1
      · by_cases hk : k < 25
        · simp only [dif_pos hk]; exact (Classical.choose_spec (key k hk)).2
        · simp only [dif_neg hk]; omega
    refine ⟨fv, ?_, hfv.2⟩
    have e : l = (List.range 25).map fun i => Value.int .u8 (fv i) := by
      apply List.ext_getElem?
      intro i
      by_cases hi : i < 25
      · rw [hfv.1 i hi, List.getElem?_map, List.getElem?_range hi]; rfl
      · rw [List.getElem?_eq_none (by omega), List.getElem?_eq_none (by simp; omega)]
    rw [e]
    rfl
end Go.Proofs.Ytolnpbpeifpbjaa
namespace Go.Proofs.Ytolnpbpeifpbjaa
open Go.ChangeShapes Go.WideShapes Go.ChangeAt Go.RowKit
set_option maxRecDepth 100000 in
theorem open_v5 {H : Type} {enc : TypeId × Value → H} {W : World} {r : Reach} {b0 : Nat} {spare : Nat → Bool} {held : Bool} {v : Value} {d : DataW H} {ps : List MemPlace}
    (hv : Value.okWide Try.prog W r b0 29 v) (h : DataW.Trod enc Try.prog W 0 spare held 29 v d ps) :
    ∃ ws : Nat → Int, v = .agg #[.int .u8 (ws 0), .int .u8 (ws 1), .int .u8 (ws 2), .int .u8 (ws 3), .int .u8 (ws 4)] ∧ ∀ j, 0 ≤ ws j ∧ ws j ≤ 255 := by
  obtain ⟨cs, rfl, hsz⟩ := okWide_arr Try.underlying29 hv
  obtain ⟨fuel, hf⟩ := h
  have en : Try.prog.cellsOf 29 = 5 := by kernel_rfl
  have u1 : Try.prog.cellsOf 5 = 1 := by kernel_rfl
  rw [en] at hsz
  obtain ⟨l⟩ := cs
  match l, hsz with
  | [c0, c1, c2, c3, c4], _ =>
    have A0 := open_arr (cs := [c0, c1, c2, c3, c4]) Try.underlying5 u1 Try.underlying29 hf rfl
    obtain ⟨w0, e0, g0⟩ := A0 0 (by decide)
    obtain ⟨w1, e1, g1⟩ := A0 1 (by decide)
    obtain ⟨w2, e2, g2⟩ := A0 2 (by decide)
    obtain ⟨w3, e3, g3⟩ := A0 3 (by decide)
    obtain ⟨w4, e4, g4⟩ := A0 4 (by decide)
    obtain rfl := Option.some.inj e0
    obtain rfl := Option.some.inj e1
    obtain rfl := Option.some.inj e2
    obtain rfl := Option.some.inj e3
    obtain rfl := Option.some.inj e4
    refine ⟨fun j => [w0, w1, w2, w3, w4].getD j 0, rfl, fun j => ?_⟩
    match j with
    | 0 => exact bounds_u8 g0
    | 1 => exact bounds_u8 g1
    | 2 => exact bounds_u8 g2
    | 3 => exact bounds_u8 g3
    | 4 => exact bounds_u8 g4
    | q + 5 => simp
end Go.Proofs.Ytolnpbpeifpbjaa
