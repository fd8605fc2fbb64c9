import Derived.Test.YtbhbpopebmdemaaDoorP2
import Derived.Test.YtbhbpopebmdemaaDoorE3
import Derived.Test.YtbhbpopebmdemaaDoorPAx15
namespace Go.Proofs.YtbhbpopebmdemaaDoor
open Go.RowKit Go.Proofs.YtbhbpopebmdemaaDoorW.PrintWords Go.Proofs.YtbhbpopebmdemaaDoorW.PrintLast Go.Proofs.YtbhbpopebmdemaaDoorW.PrintMore
open ChiPure Go.Lib Go.Shelf
set_option linter.unusedVariables false
set_option linter.unusedSimpArgs false

theorem same_l (xs : List Ctl) (hl : xs.length ≤ 4611686018427387904) : ∀ (d k i : Nat), i + d = xs.length → d < k → PA.chicaneref19_Same.l0 k xs xs (i : Int) = some true
  | 0, k, i, hi, hk => by
    obtain ⟨k1, rfl⟩ : ∃ k1, k = k1 + 1 := ⟨k - 1, by omega⟩
    unfold PA.chicaneref19_Same.l0
    rw [if_neg (by omega)]
  | d + 1, k, i, hi, hk => by
    obtain ⟨k1, rfl⟩ : ∃ k1, k = k1 + 1 := ⟨k - 1, by omega⟩
    unfold PA.chicaneref19_Same.l0
    rw [if_pos (by omega), if_pos (by omega), if_pos (by omega), if_neg (by simp)]
    have hw : wrap64 ((i : Int) + 1) = ((i + 1 : Nat) : Int) := by unfold wrap64; omega
    rw [hw]
    exact same_l xs hl d k1 (i + 1) (by omega) (by omega)
theorem same_self (xs : List Ctl) (hl : xs.length ≤ 4611686018427387904) : PA.chicaneref19_Same.f (xs.length + 1) xs xs = some true := by
  unfold PA.chicaneref19_Same.f
  rw [if_pos rfl]
  exact same_l xs hl xs.length _ 0 (by omega) (by omega)
theorem printB_len (xs : List Ctl) : (printB xs).length ≤ 11 + xs.length * 160 := by
  have h1 := flat_le lineB 160 lineB_len (runsL xs)
  have h2 := runsF_len xs.length xs
  unfold runsL at h1
  unfold printB runsL
  rw [List.length_append, List.length_append]
  show 7 + _ + 4 ≤ _
  omega

set_option maxRecDepth 100000 in
set_option maxHeartbeats 4000000 in
theorem scriptBack_any (A : Option Addr) (c : Nat) (xs : List Ctl) (m : Int) (w : World) (hm : w.cell? ⟨2, 0, none⟩ = some (.int .i64 m)) (hc : xs.length ≤ c) (hF : Kd.F PA.k35 w (fun k => k < w.heap.size) A xs.length xs) :
    Calls Tryd.prog 4 #[.slice A xs.length c] w fun e w' => e = .returned (.bool true) ∧ Below w.heap.size w w' := by
  by_cases hbig : 500 < xs.length
  · have hlt : decide ((500 : Int) < (xs.length : Int)) = true := by simp; omega
    go_enter Tryd.func4, Tryd.ntmps4
    go_wp2_with fail
    go_ret
    exact ⟨rfl, Below.refl _ _⟩
  · have hlt : decide ((500 : Int) < (xs.length : Int)) = false := by simp; omega
    have h2 : 2 < w.heap.size := by
      obtain ⟨o, ho, _⟩ := cells_of_cell hm
      exact (Array.getElem?_eq_some_iff.1 ho).1
    have hp := print_any A c xs w hc hF
    by_cases hok : xs.all okC = true
    · rw [print_ok xs hok (by omega)] at hp
      have hpp := parse_print xs hok (by omega)
      have hsz : (mkS (printB xs)).size < 4294967281 := by
        have := printB_len xs
        show (printB xs).length < _
        omega
      have hse := same_self xs (by omega)
      generalize mkS (printB xs) = T at *
      go_enter Tryd.func4, Tryd.ntmps4
      go_wp2_with fail
      refine hp.mono ?_
      rintro e w1 ⟨rfl, hb1⟩
      clear hp
      have hp := parse_any T m w1 hsz ((hb1.cell h2).trans hm)
      unfold ParsePost at hp
      rw [hpp] at hp
      dsimp only
      go_wp2_with fail
      refine hp.mono ?_
      rintro e w2 ⟨v, rfl, hR, hb2⟩
      clear hp
      have hbw2 : Below w.heap.size w w2 := hb1.trans (hb2.mono hb1.size)
      obtain ⟨Av, cv, rfl, hcv, hCv⟩ := Kd.R_reads hR
      have hC2 := Kd.F_now (Kd.F_below hF hbw2)
      have hsm := PA.chicaneref19_Same.calls (xs.length + 1) A c xs Av cv xs true w2 hC2 hc hCv hcv hse
      have hm2 := (hbw2.cell h2).trans hm
      clear hR hF hb1 hb2 hse hpp
      dsimp only
      go_wp2_with fail
      refine hsm.mono ?_
      rintro e w3 ⟨rfl, hd3⟩
      clear hsm
      have hb3 := hd3.below
      have hbw3 : Below w.heap.size w w3 := hbw2.trans (hb3.mono hbw2.size)
      have haw := awake_any m w3 ((hbw3.cell h2).trans hm)
      go_wp2_with fail
      refine haw.mono ?_
      rintro e w4 ⟨rfl, hb4⟩
      clear haw
      go_wp2_with fail
      go_ret
      exact ⟨rfl, hbw3.trans (hb4.mono hbw3.size)⟩
    · have hps : printS xs = (⟨#[]⟩, 40) := by
        unfold printS
        rw [if_neg (by omega), if_neg hok]
      rw [hps] at hp
      go_enter Tryd.func4, Tryd.ntmps4
      go_wp2_with fail
      refine hp.mono ?_
      rintro e w1 ⟨rfl, hb1⟩
      clear hp
      have haw := awake_any m w1 ((hb1.cell h2).trans hm)
      dsimp only
      go_wp2_with fail
      refine haw.mono ?_
      rintro e w2 ⟨rfl, hb2⟩
      clear haw
      go_wp2_with fail
      go_ret
      exact ⟨rfl, hb1.trans (hb2.mono hb1.size)⟩
end Go.Proofs.YtbhbpopebmdemaaDoor
