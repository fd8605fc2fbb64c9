import Derived.Test.YtbhbpopebmdemaaDoorE4
import Derived.Test.YtbhbpopebmdemaaDoorQA
namespace Go.Proofs.YtbhbpopebmdemaaDoor
open Go.RowKit Go.Proofs.YtbhbpopebmdemaaDoorW.PrintWords Go.Proofs.YtbhbpopebmdemaaDoorW.PrintLast Go.Proofs.YtbhbpopebmdemaaDoorW.PrintMore
open ChiPure Go.Lib Go.Shelf
set_option linter.unusedVariables false
set_option linter.unusedSimpArgs false

def LRel (xs : List Ctl) (w1 : World) (kq : Nat) (v9 : Value) (wr : World) : Prop :=
  ∃ i : Nat, v9 = .int .i64 (i : Int) ∧ i + kq = (lensL xs).length ∧ Drawn0 w1 wr

set_option maxRecDepth 100000 in
set_option maxHeartbeats 4000000 in
theorem scriptPrints_any (A : Option Addr) (c : Nat) (xs : List Ctl) (m : Int) (w : World) (hm : w.cell? ⟨2, 0, none⟩ = some (.int .i64 m)) (hc : xs.length ≤ c) (hF : Kd.F PA.k35 w (fun k => k < w.heap.size) A xs.length xs) :
    Calls Tryd.prog 6 #[.slice A xs.length c] w fun e w' => e = .returned (.bool true) ∧ Below w.heap.size w w' := by
  have hu35 := Tryd.underlying35
  by_cases hbig : 500 < xs.length
  · have hlt : decide ((500 : Int) < (xs.length : Int)) = true := by simp; omega
    go_enter Tryd.func6, Tryd.ntmps6
    go_wp2_with fail
    go_ret
    exact ⟨rfl, Below.refl _ _⟩
  · have hlt : decide ((500 : Int) < (xs.length : Int)) = false := by simp; omega
    have h2 : 2 < w.heap.size := by
      obtain ⟨o, ho, _⟩ := cells_of_cell hm
      exact (Array.getElem?_eq_some_iff.1 ho).1
    have hp := print_any A c xs w hc hF
    have hspec := rprint_spec xs (by omega)
    have hrspec := rruns_spec xs (by omega) 1000 (by omega)
    generalize printS xs = T at *
    obtain ⟨t, e0⟩ := T
    have HS := Lib.hid hspec
    have HRS := Lib.hid hrspec
    clear hspec hrspec
    go_enter Tryd.func6, Tryd.ntmps6
    go_wp2_with fail
    refine hp.mono ?_
    rintro e w1 ⟨rfl, hb1⟩
    clear hp
    have hC1 := Kd.F_now (Kd.F_below hF hb1)
    have hp := PA.chicaneref39_Print.calls 10000 A c xs t e0 w1 hC1 hc HS.out
    dsimp only
    go_wp2_with fail
    refine hp.mono ?_
    rintro e w2 ⟨rfl, hb2⟩
    clear hp hC1
    have hbw2 : Below w.heap.size w w2 := hb1.trans (hb2.mono hb1.size)
    have hF2 : Kd.F PA.k35 w2 (fun k => k < w2.heap.size) A xs.length xs := Kd.F_mono (Kd.F_below hF hbw2) (fun k hk => Nat.lt_of_lt_of_le hk hbw2.size)
    have hp := Runs_any A c xs w2 hc hF2 (by omega)
    dsimp only
    go_wp2_with fail
    refine hp.mono ?_
    rintro e w3 ⟨v3, rfl, hown, hb3⟩
    clear hp
    have hown3 : w3.ownsRow w2.heap.size 3 1 v3 (lensL xs).length (nums .i64 (lensL xs)) := by
      have e1 : (lensL xs).length = (runsL xs).length := by simp [lensL]
      have e2 : nums .i64 (lensL xs) = (runsL xs).map runN := by simp [nums, lensL, runN]
      rw [e1, e2]; exact hown
    have hbw3 : Below w.heap.size w w3 := hbw2.trans (hb3.mono hbw2.size)
    have hC3 := Kd.F_now (Kd.F_below hF hbw3)
    have hp := PA.chicaneref39_Runs.calls 1000 A c xs (lensL xs) w3 hC3 hc HRS.out
    go_wp2_with fail
    refine hp.mono ?_
    rintro e w4 ⟨v4, rfl, hR4, hb4⟩
    clear hp hC3 hown hF2 hb1 hb2 hb3 hlt
    have hbw4 : Below w.heap.size w w4 := hbw3.trans (hb4.mono hbw3.size)
    have hown4 := pw_own_below hown3 hb4
    obtain ⟨A3, c3, rfl, hR3⟩ := own_reads hown4
    obtain ⟨A4, c4, rfl, hc4, hC4⟩ := Kd.R_reads hR4
    have hNl : (lensL xs).length ≤ xs.length := by have := runsL_len xs; simpa [lensL] using this
    have hm4 := (hbw4.cell h2).trans hm
    clear hown3 hown4 hR4 hb4 hbw2 hbw3 hF hm
    have HX := Lib.hid hR3
    have HY := Lib.hid hC4
    have HB := Lib.hid hbw4
    clear hR3 hC4 hbw4
    go_wp2_with fail
    go_loopg [9] (lensL xs).length (fun kq v9 wr => Hid (LRel xs w4 kq v9 wr))
    case atStart => exact ⟨0, rfl, by omega, Drawn0.refl _⟩
    case round =>
      have hrel' := hrel.out
      clear hrel
      obtain ⟨i, rfl, hi, ⟨m1, rfl⟩⟩ := hrel'
      cases gk with
      | zero =>
        have hlt2 : decide ((i : Int) < ((lensL xs).length : Int)) = false := by simp; omega
        have haw := awake_any m (w4.drewN m1) hm4
        have hbd := pw_below_drewN HB.out m1
        go_wp2_with fail
        refine haw.mono ?_
        rintro e w5 ⟨rfl, hb5⟩
        clear haw
        go_wp2_with fail
        go_ret
        exact ⟨rfl, hbd.trans (hb5.mono hbd.size)⟩
      | succ k1 =>
        have hlt2 : decide ((i : Int) < ((lensL xs).length : Int)) = true := by simp; omega
        have hlt3 : decide ((0 : Int) ≤ (i : Int)) = true := by simp
        obtain ⟨ad, rfl, x0⟩ := HX.out.at_ i (by omega) (by omega)
        rw [Int.toNat_natCast] at x0
        obtain ⟨ad4, rfl, y0⟩ := Kd.at_int HY.out (i : Int) (by omega) (by omega)
        rw [Int.toNat_natCast] at y0
        have hwi : IntKind.i64.wrap ((i : Int) + 1) = ((i + 1 : Nat) : Int) := by rw [wrapI _ (by omega) (by omega)]; omega
        generalize rd (lensL xs) (i : Int) = z at *
        go_wp2_with fail
        go_quiet (fail)
        go_wp2_with fail
        go_roundg k1
        case rel => exact ⟨i + 1, by simp, by omega, ⟨_, by first | rfl | exact World.drewN_drewN _ _ _⟩⟩
        case measure => omega
end Go.Proofs.YtbhbpopebmdemaaDoor
