import Derived.Test.YtbhbpopebmdemaaDoorP3
import Derived.Test.YtbhbpopebmdemaaDoorF4
import Derived.Test.YtbhbpopebmdemaaDoorLi
namespace Go.Proofs.YtbhbpopebmdemaaDoor
open Go.RowKit Go.Proofs.YtbhbpopebmdemaaDoorW.PrintWords Go.Proofs.YtbhbpopebmdemaaDoorW.PrintLast Go.Proofs.YtbhbpopebmdemaaDoorW.PrintMore
open ChiPure Go.Lib Go.Shelf
set_option linter.unusedVariables false
set_option linter.unusedSimpArgs false

theorem light_l (s : ByteArray) (hs : s.size ≤ 140737488355328) : ∀ (d k i : Nat) (m : Int), i + d = s.size → 2 * d < k → 0 ≤ m → m ≤ 3 → ∃ b, PA.chicanelaw39_light.l0 k s m (i : Int) = some b ∧ (b = true → s.size ≤ 400)
  | 0, k, i, m, hi, hk, _, _ => by
    obtain ⟨k1, rfl⟩ : ∃ k1, k = k1 + 1 := ⟨k - 1, by omega⟩
    unfold PA.chicanelaw39_light.l0
    rw [if_neg (by omega)]
    exact ⟨_, rfl, fun h => by have := of_decide_eq_true h; omega⟩
  | d + 1, k, i, m, hi, hk, h0, h3 => by
    obtain ⟨k1, rfl⟩ : ∃ k1, k = k1 + 1 + 1 := ⟨k - 2, by omega⟩
    have hw : wrap64 ((i : Int) + 1) = ((i + 1 : Nat) : Int) := by unfold wrap64; omega
    have hm : wrap64 (m + 1) = m + 1 := by unfold wrap64; omega
    have key : ∀ x : Bool, ∃ b, PA.chicanelaw39_light.j1 (k1 + 1) s (m + 1) (i : Int) x = some b ∧ (b = true → s.size ≤ 400) := by
      intro x
      unfold PA.chicanelaw39_light.j1
      rw [hw]
      cases x with
      | true =>
        rw [if_pos rfl, if_neg (by omega)]
        exact light_l s hs d k1 (i + 1) 0 (by omega) (by omega) (by omega) (by omega)
      | false =>
        rw [if_neg (by simp)]
        by_cases h : m + 1 > 3
        · rw [if_pos h]; exact ⟨false, rfl, fun h => by cases h⟩
        · rw [if_neg h]
          exact light_l s hs d k1 (i + 1) (m + 1) (by omega) (by omega) (by omega) (by omega)
    unfold PA.chicanelaw39_light.l0
    rw [if_pos (by omega), if_pos (by omega), hm]
    split
    · exact key true
    · exact key _

theorem light_any (s : ByteArray) (hs : s.size ≤ 140737488355328) : ∃ (b : Bool), (b = true → s.size ≤ 400) ∧ ∀ w, Calls Tryd.prog 9 #[.string s] w fun e w' => e = .returned (.bool b) ∧ Drawn0 w w' := by
  obtain ⟨b, h, hb⟩ := light_l s hs s.size (2 * s.size + 1) 0 0 (by omega) (by omega) (by omega) (by omega)
  exact ⟨b, hb, fun w => PA.chicanelaw39_light.calls (2 * s.size + 1) s b w h⟩

set_option maxRecDepth 100000 in
set_option maxHeartbeats 4000000 in
theorem scriptMay_any (s : ByteArray) (m : Int) (w : World) (hm : w.cell? ⟨2, 0, none⟩ = some (.int .i64 m)) (hs : s.size ≤ 140737488355328) :
    Calls Tryd.prog 5 #[.string s] w fun e w' => e = .returned (.bool true) ∧ Below w.heap.size w w' := by
  have h2 : 2 < w.heap.size := by
    obtain ⟨o, ho, _⟩ := cells_of_cell hm
    exact (Array.getElem?_eq_some_iff.1 ho).1
  obtain ⟨b, hb, hl⟩ := light_any s hs
  have hlw := hl w
  clear hl
  cases b with
  | false =>
    go_enter Tryd.func5, Tryd.ntmps5
    go_wp2_with fail
    refine hlw.mono ?_
    rintro e w1 ⟨rfl, hd⟩
    clear hlw
    go_wp2_with fail
    go_ret
    exact ⟨rfl, hd.below⟩
  | true =>
    have hsz := hb rfl
    clear hb
    have hok := parse_ok s
    have herr := parse_err s
    go_enter Tryd.func5, Tryd.ntmps5
    go_wp2_with fail
    refine hlw.mono ?_
    rintro e w1 ⟨rfl, hd1⟩
    clear hlw
    have hb1 := hd1.below
    have hp := parse_any s m w1 (by omega) ((hb1.cell h2).trans hm)
    unfold ParsePost at hp
    generalize parseR s = R at *
    obtain ⟨xs, e0, at0⟩ := R
    simp only at hok herr hp
    go_wp2_with fail
    refine hp.mono ?_
    rintro e w2 ⟨v, rfl, hR, hb2⟩
    clear hp
    have hbw2 : Below w.heap.size w w2 := hb1.trans (hb2.mono hb1.size)
    obtain ⟨Av, cv, rfl, hcv, hCv⟩ := Kd.R_reads hR
    by_cases he : e0 = 0
    · subst he
      have hF2 : Kd.F PA.k35 w2 (fun k => k < w2.heap.size) Av xs.length xs := Kd.F_mono (Kd.R_F (Kd.R_bound hR)) (fun k hk => hk.2.2.1)
      obtain ⟨hok, hlen⟩ := hok
      have hpr := print_any Av cv xs w2 hcv hF2
      rw [print_ok xs hok hlen] at hpr
      have hpp := parse_print xs hok hlen
      have hsz2 : (mkS (printB xs)).size < 4294967281 := by
        have := printB_len xs
        show (printB xs).length < _
        omega
      have hse := same_self xs (by omega)
      clear hok herr hlen hR hCv hb1 hd1 hb2 hsz
      generalize mkS (printB xs) = T at *
      dsimp only
      go_wp2_with fail
      refine hpr.mono ?_
      rintro e w3 ⟨rfl, hb3⟩
      clear hpr
      have hbw3 : Below w.heap.size w w3 := hbw2.trans (hb3.mono hbw2.size)
      have hp := parse_any T m w3 hsz2 ((hbw3.cell h2).trans hm)
      unfold ParsePost at hp
      rw [hpp] at hp
      dsimp only
      go_wp2_with fail
      refine hp.mono ?_
      rintro e w4 ⟨v4, rfl, hR4, hb4⟩
      clear hp
      have hb34 : Below w2.heap.size w2 w4 := hb3.trans (hb4.mono hb3.size)
      have hbw4 : Below w.heap.size w w4 := hbw3.trans (hb4.mono hbw3.size)
      obtain ⟨A4, c4, rfl, hc4, hC4⟩ := Kd.R_reads hR4
      have hC2 := Kd.F_now (Kd.F_below hF2 hb34)
      have hsm := PA.chicaneref19_Same.calls (xs.length + 1) Av cv xs A4 c4 xs true w4 hC2 hcv hC4 hc4 hse
      have hm4 := (hbw4.cell h2).trans hm
      clear hR4 hF2 hb3 hb4 hse hpp hb34 hC2 hC4
      dsimp only
      go_wp2_with fail
      refine hsm.mono ?_
      rintro e w5 ⟨rfl, hd5⟩
      clear hsm
      have hb5 := hd5.below
      have hbw5 : Below w.heap.size w w5 := hbw4.trans (hb5.mono hbw4.size)
      have haw := awake_any m w5 ((hbw5.cell h2).trans hm)
      go_wp2_with fail
      refine haw.mono ?_
      rintro e w6 ⟨rfl, hb6⟩
      clear haw
      go_wp2_with fail
      go_ret
      exact ⟨rfl, hbw5.trans (hb6.mono hbw5.size)⟩
    · obtain ⟨rfl, hat⟩ := herr he
      have bz : (e0 != 0) = true := by simp [he]
      have haw := awake_any m w2 ((hbw2.cell h2).trans hm)
      clear he hok herr hR hCv hb1 hd1 hb2 hsz
      dsimp only [List.length_nil]
      go_wp2_with fail
      refine haw.mono ?_
      rintro e w6 ⟨rfl, hb6⟩
      clear haw
      go_wp2_with fail
      go_ret
      exact ⟨rfl, hbw2.trans (hb6.mono hbw2.size)⟩
end Go.Proofs.YtbhbpopebmdemaaDoor
