/- Part of the proof: what the claim leans on. -/
import Derived.Test.YtiocklgakklkpaaLAX
import Derived.Test.YtiocklgakklkpaaLAW
import Derived.Test.YtiocklgakklkpaaLBA
import Derived.ProofKit
import Derived.OpenShut
import Derived.ChangeOld
import Derived.Below
import Derived.Test.YtiocklgakklkpaaLAC
import Derived.Test.YtiocklgakklkpaaLAS
set_option linter.unusedSimpArgs false
set_option linter.unusedVariables false
namespace Go.Proofs.Ytiocklgakklkpaa
open Go.RowKit
def lwF (fv : Nat → Int) (i : Nat) : Int := 100 + fv (4 * i + 1)
def ttF (fv : Nat → Int) (i : Nat) : Int := fv (4 * i + 2) % 60
def mmF (fv : Nat → Int) (i : Nat) : Int := fv (4 * i + 3) % 90
def ddF (fv : Nat → Int) (i : Nat) : Int := fv (4 * i + 2) % 20
def pcF (fv : Nat → Int) (i : Nat) : Int := 2000 + 20 * fv (12 + 3 * i)
def prF (fv : Nat → Int) (i : Nat) : Int := pcF fv i * fv (14 + 3 * i)
def eeF (fv : Nat → Int) (i : Nat) : Int := pcF fv i * fv (14 + 3 * i) / 400
def hgF (fv : Nat → Int) (i : Nat) : Int := 1000 + 8 * fv (13 + 3 * i)
def uuF (fv : Nat → Int) (i : Nat) : Int := fv (14 + 3 * i) % 200
/-- The papers and the flutes that the bytes make. -/
def psF (fv : Nat → Int) : Nat → Pa := paF fv (lwF fv) (ttF fv) (mmF fv) (ddF fv)
def qsF (fv : Nat → Int) : Nat → Fu := fuF (pcF fv) (eeF fv) (hgF fv) (uuF fv)
theorem pr_bd {fv : Nat → Int} (gfv : ∀ k, 0 ≤ fv k ∧ fv k ≤ 255) (i : Nat) : 0 ≤ prF fv i ∧ prF fv i ≤ 2000000 := by
  have h1 := gfv (12 + 3 * i); have h2 := gfv (14 + 3 * i)
  have := prod_bd (a := pcF fv i) (b := fv (14 + 3 * i)) (A := 7100) (B := 255) (by unfold pcF; omega) h2
  unfold prF; omega
theorem ee_bd {fv : Nat → Int} (gfv : ∀ k, 0 ≤ fv k ∧ fv k ≤ 255) (i : Nat) : 0 ≤ eeF fv i ∧ eeF fv i ≤ 5000 := by
  have := pr_bd gfv i
  show 0 ≤ prF fv i / 400 ∧ prF fv i / 400 ≤ 5000
  omega
theorem ee_le {fv : Nat → Int} (gfv : ∀ k, 0 ≤ fv k ∧ fv k ≤ 255) (i : Nat) : eeF fv i ≤ pcF fv i := by
  have h1 := gfv (12 + 3 * i); have h2 := gfv (14 + 3 * i)
  have hp : 0 ≤ pcF fv i := by unfold pcF; omega
  have h3 := Int.mul_le_mul_of_nonneg_left h2.2 hp
  show pcF fv i * fv (14 + 3 * i) / 400 ≤ pcF fv i
  omega
theorem fold_in {fv : Nat → Int} (gfv : ∀ k, 0 ≤ fv k ∧ fv k ≤ 255) : FoldIn (psF fv) (qsF fv) := by
  refine ⟨fun i hi => ?_, fun i hi => ?_, rfl, rfl, rfl⟩
  · have g0 := gfv (4 * i); have g1 := gfv (4 * i + 1); have g2 := gfv (4 * i + 2); have g3 := gfv (4 * i + 3)
    refine ⟨?_, ?_, ?_, ?_, ?_, ?_⟩
    · match i, hi with
      | 0, _ => exact .inl rfl
      | 1, _ => exact .inr rfl
      | 2, _ => exact .inl rfl
    · show 1 ≤ 80 + fv (4 * i) ∧ 80 + fv (4 * i) ≤ 1000
      omega
    · show 1 ≤ 100 + fv (4 * i + 1) ∧ 100 + fv (4 * i + 1) ≤ 100 + fv (4 * i + 1) + fv (4 * i + 2) % 60 ∧ 100 + fv (4 * i + 1) + fv (4 * i + 2) % 60 ≤ 1000
      omega
    · show 0 ≤ fv (4 * i + 3) % 90 ∧ fv (4 * i + 3) % 90 ≤ fv (4 * i + 3) % 90 + fv (4 * i + 2) % 20 ∧ fv (4 * i + 3) % 90 + fv (4 * i + 2) % 20 ≤ 200
      omega
    · show 0 ≤ 2000 * fv (4 * i) ∧ 2000 * fv (4 * i) ≤ 1000000
      omega
    · show 0 ≤ 5 * fv (4 * i + 1) ∧ 5 * fv (4 * i + 1) ≤ 10000
      omega
  · have g0 := gfv (12 + 3 * i); have g1 := gfv (13 + 3 * i); have g2 := gfv (14 + 3 * i)
    have e1 := ee_le gfv i; have e2 := ee_bd gfv i
    refine ⟨?_, ?_, ?_⟩
    · show 1000 ≤ 2000 + 20 * fv (12 + 3 * i) ∧ 2000 + 20 * fv (12 + 3 * i) ≤ 10000
      omega
    · show pcF fv i ≤ pcF fv i + eeF fv i ∧ pcF fv i + eeF fv i ≤ 2 * pcF fv i
      omega
    · show 1 ≤ 1000 + 8 * fv (13 + 3 * i) ∧ 1000 + 8 * fv (13 + 3 * i) ≤ 1000 + 8 * fv (13 + 3 * i) + fv (14 + 3 * i) % 200 ∧ 1000 + 8 * fv (13 + 3 * i) + fv (14 + 3 * i) % 200 ≤ 10000
      omega
theorem t2_le {fv : Nat → Int} (gfv : ∀ k, 0 ≤ fv k ∧ fv k ≤ 255) (i : Nat) : (psF fv i).t2 ≤ 414 := by
  have g1 := gfv (4 * i + 1); have g2 := gfv (4 * i + 2)
  show 100 + fv (4 * i + 1) + fv (4 * i + 2) % 60 ≤ 414
  omega
theorem h2_le {fv : Nat → Int} (gfv : ∀ k, 0 ≤ fv k ∧ fv k ≤ 255) (i : Nat) : (qsF fv i).h2 ≤ 3239 := by
  have g1 := gfv (13 + 3 * i); have g2 := gfv (14 + 3 * i)
  show 1000 + 8 * fv (13 + 3 * i) + fv (14 + 3 * i) % 200 ≤ 3239
  omega
theorem hi1_le {fv : Nat → Int} (gfv : ∀ k, 0 ≤ fv k ∧ fv k ≤ 255) : hi1 (psF fv) (qsF fv) ≤ 10000 := by
  have := t2_le gfv 0; have := t2_le gfv 2; have := h2_le gfv 0
  unfold hi1; omega
theorem hi2_le {fv : Nat → Int} (gfv : ∀ k, 0 ≤ fv k ∧ fv k ≤ 255) : hi2 (psF fv) (qsF fv) ≤ 10000 := by
  have := t2_le gfv 0; have := t2_le gfv 2; have := h2_le gfv 0; have := h2_le gfv 1
  unfold hi2; omega
theorem store_ok {fv : Nat → Int} (gfv : ∀ k, 0 ≤ fv k ∧ fv k ≤ 255) (W : World) : Calls Try.prog 6 #[.agg #[.int .u8 ((fv 0)), .int .u8 ((fv 1)), .int .u8 ((fv 2)), .int .u8 ((fv 3)), .int .u8 ((fv 4)), .int .u8 ((fv 5)), .int .u8 ((fv 6)), .int .u8 ((fv 7)), .int .u8 ((fv 8)), .int .u8 ((fv 9)), .int .u8 ((fv 10)), .int .u8 ((fv 11)), .int .u8 ((fv 12)), .int .u8 ((fv 13)), .int .u8 ((fv 14)), .int .u8 ((fv 15)), .int .u8 ((fv 16)), .int .u8 ((fv 17)), .int .u8 ((fv 18)), .int .u8 ((fv 19)), .int .u8 ((fv 20)), .int .u8 ((fv 21)), .int .u8 ((fv 22)), .int .u8 ((fv 23)), .int .u8 ((fv 24))]] W (StoOP (psF fv) (qsF fv) W) :=
  pubStore_any fv (lwF fv) (ttF fv) (mmF fv) (ddF fv) (pcF fv) (eeF fv) (hgF fv) (uuF fv) (prF fv) W (gfv) (rfl) (rfl) (rfl) (rfl) (rfl) (rfl) (rfl) (rfl) (rfl) (rfl) (rfl) (rfl) (rfl) (rfl) (rfl) (pr_bd gfv 0) (rfl) (ee_bd gfv 0) (rfl) (rfl) (rfl) (rfl) (pr_bd gfv 1) (rfl) (ee_bd gfv 1) (rfl)
/-- The box that the bytes make, with panels and a height that are longer by some. -/
def boxB (fv : Nat → Int) (mo : Int) : Bl := ⟨fv 20 % 50, [(60 + fv 18) + mo, (50 + fv 19) + mo, (60 + fv 18) + mo, (50 + fv 19) + mo], (40 + fv 21) + mo, [(50 + fv 19) / 2 + fv 22 % 3, (50 + fv 19) / 2 + fv 22 % 3], [(50 + fv 19) / 2 + fv 22 % 3, (50 + fv 19) / 2 + fv 22 % 3 + fv 23 % 4], fv 24 % 21, false⟩
theorem boxB_ok {fv : Nat → Int} (gfv : ∀ k, 0 ≤ fv k ∧ fv k ≤ 255) {mo : Int} (hmo : 0 ≤ mo ∧ mo ≤ 1000) : checkErr (boxB fv mo) = 0 := by
  have g18 := gfv 18; have g19 := gfv 19; have g20 := gfv 20; have g21 := gfv 21; have g22 := gfv 22; have g23 := gfv 23; have g24 := gfv 24
  exact check_ok (by omega) (by omega) (by omega) (by omega) (by omega) (by omega) (by omega) (by omega) (by omega) (by omega) (by omega) nofun
theorem box_ok {fv : Nat → Int} (gfv : ∀ k, 0 ≤ fv k ∧ fv k ≤ 255) {mo : Int} (hmo : 0 ≤ mo ∧ mo ≤ 1000) (W : World) : Calls Try.prog 7 #[.agg #[.int .u8 ((fv 0)), .int .u8 ((fv 1)), .int .u8 ((fv 2)), .int .u8 ((fv 3)), .int .u8 ((fv 4)), .int .u8 ((fv 5)), .int .u8 ((fv 6)), .int .u8 ((fv 7)), .int .u8 ((fv 8)), .int .u8 ((fv 9)), .int .u8 ((fv 10)), .int .u8 ((fv 11)), .int .u8 ((fv 12)), .int .u8 ((fv 13)), .int .u8 ((fv 14)), .int .u8 ((fv 15)), .int .u8 ((fv 16)), .int .u8 ((fv 17)), .int .u8 ((fv 18)), .int .u8 ((fv 19)), .int .u8 ((fv 20)), .int .u8 ((fv 21)), .int .u8 ((fv 22)), .int .u8 ((fv 23)), .int .u8 ((fv 24))], .int .i64 mo] W (BoxOP (fv 20 % 50) ((60 + fv 18) + mo) ((50 + fv 19) + mo) ((40 + fv 21) + mo) ((50 + fv 19) / 2 + fv 22 % 3) ((50 + fv 19) / 2 + fv 22 % 3 + fv 23 % 4) (fv 24 % 21) W) :=
  pubBox_any fv mo _ _ _ _ _ _ _ _ _ _ W gfv hmo rfl rfl rfl rfl rfl rfl rfl rfl rfl rfl
end Go.Proofs.Ytiocklgakklkpaa
namespace Go.Proofs.Ytiocklgakklkpaa
open Go.RowKit
theorem lid_law {fv : Nat → Int} {mv : Int} (gfv : ∀ k, 0 ≤ fv k ∧ fv k ≤ 255) (gmv : 0 ≤ mv ∧ mv ≤ 255) (ta : Option Addr) (tn tc : Nat) (bs : Nat → Int) (w : World) (hT : ByV w ta tn bs) : Calls Try.prog 3 #[.agg #[.int .u8 ((fv 0)), .int .u8 ((fv 1)), .int .u8 ((fv 2)), .int .u8 ((fv 3)), .int .u8 ((fv 4)), .int .u8 ((fv 5)), .int .u8 ((fv 6)), .int .u8 ((fv 7)), .int .u8 ((fv 8)), .int .u8 ((fv 9)), .int .u8 ((fv 10)), .int .u8 ((fv 11)), .int .u8 ((fv 12)), .int .u8 ((fv 13)), .int .u8 ((fv 14)), .int .u8 ((fv 15)), .int .u8 ((fv 16)), .int .u8 ((fv 17)), .int .u8 ((fv 18)), .int .u8 ((fv 19)), .int .u8 ((fv 20)), .int .u8 ((fv 21)), .int .u8 ((fv 22)), .int .u8 ((fv 23)), .int .u8 ((fv 24))], .int .u8 mv, .slice ta tn tc] w (fun e w' => e = .returned (.bool true) ∧ Below w.heap.size w w') := by
  have hI := fold_in gfv
  have gmo : 0 ≤ mv % 40 ∧ mv % 40 ≤ 1000 := by omega
  have hck1 := boxB_ok gfv gmo
  have hck2 := boxB_ok gfv (mo := 0) (by omega)
  have j := lo1_in hI
  have k := lo2_in hI
  have j3 := hi1_le gfv
  have j6 := hi2_le gfv
  have hc := cal1_in hI hT
  have hd' := cal2_in hI hT
  have g18 := gfv 18; have g19 := gfv 19; have g21 := gfv 21
  generalize hka : lo1 (psF fv) (qsF fv) = ka at *
  generalize hkb : hi1 (psF fv) (qsF fv) = kb at *
  generalize hkc : lo2 (psF fv) (qsF fv) = kc at *
  generalize hkd : hi2 (psF fv) (qsF fv) = kd at *
  have hp2 : insideB (boxB fv 0) kc ((1000 * ((60 + fv 18) + 0) - kc) / 1000) ((1000 * ((50 + fv 19) + 0) - kc) / 1000) ((1000 * ((40 + fv 21) + 0) - 2 * kc) / 1000) = true := by
    refine inside_yes (Int.le_min.2 ⟨?_, ?_⟩) (Int.le_min.2 ⟨?_, ?_⟩) ?_
    · show _ ≤ 1000 * ((60 + fv 18) + 0) - kc; omega
    · show _ ≤ 1000 * ((60 + fv 18) + 0) - kc; omega
    · show _ ≤ 1000 * ((50 + fv 19) + 0) - kc; omega
    · show _ ≤ 1000 * ((50 + fv 19) + 0) - kc; omega
    · show _ ≤ 1000 * ((40 + fv 21) + 0) - kc - kc; omega
  have hfin : (!decide (0 ≤ 1000 * ((60 + fv 18) + mv % 40 - ((60 + fv 18) + 0)) - kb - kd) || !decide (1000 * ((1000 * ((40 + fv 21) + 0) - 2 * kc) / 1000) ≤ 1000 * ((40 + fv 21) + mv % 40) - 2 * kb) || insideB (boxB fv (mv % 40)) kb ((1000 * ((60 + fv 18) + 0) - kc) / 1000) ((1000 * ((50 + fv 19) + 0) - kc) / 1000) ((1000 * ((40 + fv 21) + 0) - 2 * kc) / 1000)) = true := by
    by_cases h1 : 0 ≤ 1000 * ((60 + fv 18) + mv % 40 - ((60 + fv 18) + 0)) - kb - kd
    · by_cases h2 : 1000 * ((1000 * ((40 + fv 21) + 0) - 2 * kc) / 1000) ≤ 1000 * ((40 + fv 21) + mv % 40) - 2 * kb
      · rw [inside_yes (b := boxB fv (mv % 40)) (c := kb) (Int.le_min.2 ⟨?_, ?_⟩) (Int.le_min.2 ⟨?_, ?_⟩) ?_]
        · simp
        · show _ ≤ 1000 * ((60 + fv 18) + mv % 40) - kb; omega
        · show _ ≤ 1000 * ((60 + fv 18) + mv % 40) - kb; omega
        · show _ ≤ 1000 * ((50 + fv 19) + mv % 40) - kb; omega
        · show _ ≤ 1000 * ((50 + fv 19) + mv % 40) - kb; omega
        · show _ ≤ 1000 * ((40 + fv 21) + mv % 40) - kb - kb; omega
      · rw [decide_eq_false h2]; simp
    · rw [decide_eq_false h1]; simp
  refine lid_main fv mv (mv % 40) (psF fv) (qsF fv) ta tn tc bs _ _ _ _ _ _ _ _ _ _ _ _ _ _ (boxB fv (mv % 40)) (boxB fv 0) ka kb kc kd _ _ _ _ _ _ _ _ _ _ _ _ _ _ _ _ _ w gmv rfl (store_ok gfv) (box_ok gfv gmo) (box_ok gfv (by omega)) hI rfl rfl hck1 hck2 hT rfl rfl hka hkb rfl rfl hkc hkd rfl rfl hc hd' j.1 j.2 j3 k.1 k.2 j6
    rfl (play_len hck1 hck2) (fun i hi => ?_) rfl rfl (by omega) rfl rfl rfl (by omega) (by omega) (by omega) rfl hp2 rfl rfl (by omega) (by omega) (by omega) (by omega) (by omega) (by omega) rfl rfl hfin
  rw [play_nth hck1 hck2 hi]
  match i, hi with
  | 0, _ => rfl
  | 1, _ => exact Prod.ext (by show 1000 * ((50 + fv 19) + mv % 40 - ((50 + fv 19) + 0)) - kb - kd = 1000 * ((60 + fv 18) + mv % 40 - ((60 + fv 18) + 0)) - kb - kd; omega) (by show 1000 * ((50 + fv 19) + mv % 40 - ((50 + fv 19) + 0)) - ka - kc = 1000 * ((60 + fv 18) + mv % 40 - ((60 + fv 18) + 0)) - ka - kc; omega)
  | 2, _ => rfl
  | 3, _ => exact Prod.ext (by show 1000 * ((50 + fv 19) + mv % 40 - ((50 + fv 19) + 0)) - kb - kd = 1000 * ((60 + fv 18) + mv % 40 - ((60 + fv 18) + 0)) - kb - kd; omega) (by show 1000 * ((50 + fv 19) + mv % 40 - ((50 + fv 19) + 0)) - ka - kc = 1000 * ((60 + fv 18) + mv % 40 - ((60 + fv 18) + 0)) - ka - kc; omega)
end Go.Proofs.Ytiocklgakklkpaa
namespace Go.Proofs.Ytiocklgakklkpaa
open Go.ChangeShapes Go.WideShapes Go.ChangeAt Go.RowKit
theorem lt_of_cell1 {w : World} {a : Addr} {v : Value} (h : w.cell? a = some v) : a.block < w.heap.size := by
  rcases Nat.lt_or_ge a.block w.heap.size with hlt | hge
  · exact hlt
  · have e : w.heap[a.block]? = none := Array.getElem?_eq_none hge
    simp [World.cell?, e] at h
end Go.Proofs.Ytiocklgakklkpaa
namespace Go.Proofs.Ytiocklgakklkpaa
open Go.ChangeShapes Go.WideShapes Go.ChangeAt Go.RowKit
end Go.Proofs.Ytiocklgakklkpaa
namespace Go.Proofs.Ytiocklgakklkpaa
open Go.ChangeShapes Go.WideShapes Go.ChangeAt Go.RowKit
theorem bounds_u8 {n : Int} (h : (Lit.int .u8 n).wf = true) : 0 ≤ n ∧ n ≤ 255 := by
  simp only [Lit.wf, Bool.and_eq_true, decide_eq_true_eq] at h
  exact h
/-- Small whole numbers in an array: each cell is one. -/
theorem open_arr {k : IntKind} {e : TypeId} {H : Type} {enc : TypeId × Value → H} {W : World} {spare : Nat → Bool} {held : Bool} {fuel n : Nat} {t : TypeId} {cs : List Value} {y : DataW H × List MemPlace} (he : Try.prog.underlying e = some (.int k)) (hc : Try.prog.cellsOf e = 1) (ht : Try.prog.underlying t = some (.array n e)) (hf : DataW.trod enc Try.prog W 0 spare held fuel t cs = some y) (hn : cs.length = n) :
    ∀ i, i < n → ∃ x, cs[i]? = some (.int k x) ∧ (Lit.int k x).wf = true := by
  obtain ⟨xs, m, _, _, hl, hlen, hel⟩ := DataW.trod_array ht hf
  intro i hi
  have f := hel i hi
  rw [hc, Nat.mul_one] at f
  rw [List.getElem?_eq_getElem (by omega : i < xs.length)] at f
  obtain ⟨x, q, -, wf⟩ := DataW.trod_int he f
  refine ⟨x, ?_, wf⟩
  have h1 : ((cs.drop i).take 1)[0]? = some (.int k x) := by rw [q]; rfl
  simpa using h1
end Go.Proofs.Ytiocklgakklkpaa
namespace Go.Proofs.Ytiocklgakklkpaa
open Go.ChangeShapes Go.WideShapes Go.ChangeAt Go.RowKit
/-- Small whole numbers in an array of arrays: each cell is one. -/
theorem open_arr2 {k : IntKind} {e e2 : TypeId} {H : Type} {enc : TypeId × Value → H} {W : World} {spare : Nat → Bool} {held : Bool} {fuel n m : Nat} {t : TypeId} {cs : List Value} {y : DataW H × List MemPlace} (he : Try.prog.underlying e = some (.int k)) (hc : Try.prog.cellsOf e = 1) (he2 : Try.prog.underlying e2 = some (.array m e)) (hc2 : Try.prog.cellsOf e2 = m) (ht : Try.prog.underlying t = some (.array n e2)) (hf : DataW.trod enc Try.prog W 0 spare held fuel t cs = some y) (hn : cs.length = n * m) :
    ∀ i j, i < n → j < m → ∃ x, cs[i * m + j]? = some (.int k x) ∧ (Lit.int k x).wf = true := by
  obtain ⟨xs, m', _, _, hl, hlen, hel⟩ := DataW.trod_array ht hf
  intro i j hi hj
  have f := hel i hi
  rw [hc2, List.getElem?_eq_getElem (by omega : i < xs.length)] at f
  have hle : (i + 1) * m ≤ n * m := Nat.mul_le_mul_right m hi
  rw [Nat.add_mul, Nat.one_mul] at hle
  obtain ⟨x, e1, w⟩ := open_arr he hc he2 f (by rw [List.length_take, List.length_drop]; omega) j hj
  refine ⟨x, ?_, w⟩
  rw [List.getElem?_take_of_lt hj, List.getElem?_drop] at e1
  exact e1
set_option maxRecDepth 100000 in
/-- A list of bytes that came in. -/
theorem open_bytes {H : Type} {enc : TypeId × Value → H} {W : World} {r : Reach} {b0 : Nat} {spare : Nat → Bool} {held : Bool} {v : Value} {d : DataW H} {ps : List MemPlace}
    (hv : Value.okWide Try.prog W r b0 29 v) (h : DataW.Trod enc Try.prog W 0 spare held 29 v d ps) : ∃ a n c bs, v = .slice a n c ∧ ByV W a n bs := by
  obtain ⟨a, n, c, rfl⟩ := okWide_slice Try.underlying29 hv
  obtain ⟨fuel, hf⟩ := h
  rcases open_ints (k := .u8) Try.underlying29 Try.underlying5 (by kernel_rfl) hf with ⟨hcs, _⟩ | ⟨x, l, c', zs, hcs, _, hl, hm, hz, _, hcell, hwz⟩
  · have e := (List.cons.inj hcs).1
    obtain ⟨rfl, rfl, rfl⟩ := Value.slice.inj e
    exact ⟨_, _, _, fun _ => 0, rfl, .inl rfl⟩
  · have e := (List.cons.inj hcs).1
    obtain ⟨rfl, rfl, rfl⟩ := Value.slice.inj e
    refine ⟨_, _, _, fun i => zs.getD i 0, rfl, ?_⟩
    by_cases h0 : n = 0
    · exact .inl h0
    · obtain ⟨b, off, spot⟩ := x
      have hz' : n ≤ zs.length := by rw [hz]; split <;> omega
      have hc := hcell 0 (by omega)
      have hspot : spot = none := by simpa [Addr.add] using World.cell?_spot hc
      subst hspot
      refine .inr ⟨b, off, rfl, ⟨lt_of_cell1 (a := (⟨b, off, none⟩ : Addr).add 0) hc, fun i hi => ?_⟩, by unfold maxLen at hm; omega, fun i hi => ?_⟩
      · have h := hcell i (by omega)
        have ea : ((⟨b, off, none⟩ : Addr).add i) = ⟨b, off + i, none⟩ := add_plain b off i
        rw [ea] at h
        rw [h]
        first | done | simp [List.getD_eq_getElem?_getD, (by omega : i < zs.length)]
      · have hlt : i < zs.length := by omega
        have := hwz (zs[i]) (List.getElem_mem hlt)
        simp only [List.getD_eq_getElem?_getD, List.getElem?_eq_getElem hlt, Option.getD_some]
        exact bounds_u8 this
set_option maxRecDepth 100000 in
theorem open_fold {H : Type} {enc : TypeId × Value → H} {W : World} {r : Reach} {b0 : Nat} {spare : Nat → Bool} {held : Bool} {v : Value} {d : DataW H} {ps : List MemPlace}
    (hv : Value.okWide Try.prog W r b0 28 v) (h : DataW.Trod enc Try.prog W 0 spare held 28 v d ps) :
    ∃ fv : Nat → Int, v = .agg #[.int .u8 (fv 0), .int .u8 (fv 1), .int .u8 (fv 2), .int .u8 (fv 3), .int .u8 (fv 4), .int .u8 (fv 5), .int .u8 (fv 6), .int .u8 (fv 7), .int .u8 (fv 8), .int .u8 (fv 9), .int .u8 (fv 10), .int .u8 (fv 11), .int .u8 (fv 12), .int .u8 (fv 13), .int .u8 (fv 14), .int .u8 (fv 15), .int .u8 (fv 16), .int .u8 (fv 17), .int .u8 (fv 18), .int .u8 (fv 19), .int .u8 (fv 20), .int .u8 (fv 21), .int .u8 (fv 22), .int .u8 (fv 23), .int .u8 (fv 24)] ∧ ∀ k, 0 ≤ fv k ∧ fv k ≤ 255 := by
  obtain ⟨cs, rfl, hsz⟩ := okWide_struct Try.underlying28 hv
  obtain ⟨fuel, hf⟩ := h
  obtain ⟨xs, n, _, _, hl, hlen, hfld⟩ := DataW.trod_struct Try.underlying28 hf
  have e25 : Try.prog.cellsOf 28 = 25 := by kernel_rfl
  rw [e25] at hsz
  have c12 : Try.prog.cellsOf 23 = 12 := by kernel_rfl
  have c4 : Try.prog.cellsOf 22 = 4 := by kernel_rfl
  have c6 : Try.prog.cellsOf 25 = 6 := by kernel_rfl
  have c3 : Try.prog.cellsOf 24 = 3 := by kernel_rfl
  have c7 : Try.prog.cellsOf 26 = 7 := by kernel_rfl
  have u1 : Try.prog.cellsOf 5 = 1 := by kernel_rfl
  obtain ⟨l⟩ := cs
  have hl25 : l.length = 25 := hsz
  match xs, hlen with
  | [y0, y1, y2], _ =>
    have f0 : DataW.trod enc Try.prog W 0 spare held n 23 ((l.drop 0).take (Try.prog.cellsOf 23)) = some y0 := hfld 0 _ rfl
    have f1 : DataW.trod enc Try.prog W 0 spare held n 25 ((l.drop 12).take (Try.prog.cellsOf 25)) = some y1 := hfld 1 _ rfl
    have f2 : DataW.trod enc Try.prog W 0 spare held n 26 ((l.drop 18).take (Try.prog.cellsOf 26)) = some y2 := hfld 2 _ rfl
    rw [c12] at f0
    rw [c6] at f1
    rw [c7] at f2
    have A0 := open_arr2 Try.underlying5 u1 Try.underlying22 c4 Try.underlying23 f0 (by rw [List.length_take, List.length_drop]; omega)
    have A1 := open_arr2 Try.underlying5 u1 Try.underlying24 c3 Try.underlying25 f1 (by rw [List.length_take, List.length_drop]; omega)
    have A2 := open_arr Try.underlying5 u1 Try.underlying26 f2 (by rw [List.length_take, List.length_drop]; omega)
    have key : ∀ i, i < 25 → ∃ x, l[i]? = some (.int .u8 x) ∧ 0 ≤ x ∧ x ≤ 255 := by
      intro i hi
      by_cases h1 : i < 12
      · obtain ⟨x, e, w⟩ := A0 (i / 4) (i % 4) (by omega) (by omega)
        refine ⟨x, ?_, bounds_u8 w⟩
        rw [show i / 4 * 4 + i % 4 = i by omega, List.getElem?_take_of_lt h1, List.getElem?_drop, Nat.zero_add] at e
        exact e
      · by_cases h2 : i < 18
        · obtain ⟨x, e, w⟩ := A1 ((i - 12) / 3) ((i - 12) % 3) (by omega) (by omega)
          refine ⟨x, ?_, bounds_u8 w⟩
          rw [show (i - 12) / 3 * 3 + (i - 12) % 3 = i - 12 by omega, List.getElem?_take_of_lt (by omega), List.getElem?_drop, show 12 + (i - 12) = i by omega] at e
          exact e
        · obtain ⟨x, e, w⟩ := A2 (i - 18) (by omega)
          refine ⟨x, ?_, bounds_u8 w⟩
          rw [List.getElem?_take_of_lt (by omega), List.getElem?_drop, show 18 + (i - 18) = i by omega] at e
          exact e
    obtain ⟨fv, hfv⟩ : ∃ fv : Nat → Int, (∀ i, i < 25 → l[i]? = some (.int .u8 (fv i))) ∧ ∀ k, 0 ≤ fv k ∧ fv k ≤ 255 := by
      refine ⟨fun i => if h : i < 25 then Classical.choose (key i h) else 0, fun i hi => ?_, fun k => ?_⟩
      · simp only [dif_pos hi]; exact (Classical.choose_spec (key i hi)).1
      · by_cases hk : k < 25
        · simp only [dif_pos hk]; exact (Classical.choose_spec (key k hk)).2
        · simp only [dif_neg hk]; omega
    refine ⟨fv, ?_, hfv.2⟩
    have e : l = (List.range 25).map fun i => Value.int .u8 (fv i) := by
      apply List.ext_getElem?
      intro i
      by_cases hi : i < 25
      · rw [hfv.1 i hi, List.getElem?_map, List.getElem?_range hi]; rfl
      · rw [List.getElem?_eq_none (by omega), List.getElem?_eq_none (by simp; omega)]
    rw [e]
    rfl
end Go.Proofs.Ytiocklgakklkpaa
