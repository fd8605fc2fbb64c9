import Derived.Test.YtbhbpopebmdemaaDoorM1
import Derived.Test.YtbhbpopebmdemaaDoorC1
import Derived.Test.YtbhbpopebmdemaaDoorPAx15
import Derived.Test.YtbhbpopebmdemaaDoorPAx0
import Derived.Test.YtbhbpopebmdemaaDoorRA
import Derived.Test.YtbhbpopebmdemaaDoorE3
-- light alone, printed by the kit's print.py for texts of this session's own, and turned by hand where it was wanted
namespace Go.Proofs.YtbhbpopebmdemaaDoor.PL
open Go.RowKit Go.Proofs.YtbhbpopebmdemaaDoorW.PrintWords Go.Proofs.YtbhbpopebmdemaaDoorW.PrintLast Go.Proofs.YtbhbpopebmdemaaDoorW.PrintMore
attribute [local go_sem] max2_int min2_int max_two min_two max_three min_three max_four min_four   -- for this text's walks alone
set_option linter.unusedVariables false
set_option linter.unusedSimpArgs false

/-! ### chicanelaw39_light: function 9 -/
mutual
def chicanelaw39_light.l0 : Nat → ByteArray → Int → Int → Option (Bool)
  | 0, _, _, _ => none
  | k + 1, x0, x3, x4 => if x4 < (x0.size : Int) then (if 0 ≤ x4 then (if (bt x0 x4) < 48 then (chicanelaw39_light.j1 k x0 (wrap64 (x3 + 1)) x4 true) else (chicanelaw39_light.j1 k x0 (wrap64 (x3 + 1)) x4 (decide ((bt x0 x4) > 57)))) else (none)) else (some (decide ((x0.size : Int) ≤ 400)))
def chicanelaw39_light.j1 : Nat → ByteArray → Int → Int → Bool → Option (Bool)
  | 0, _, _, _, _ => none
  | k + 1, x0, x3, x4, x22 => if x22 = true then (if 0 > 3 then (some false) else (chicanelaw39_light.l0 k x0 0 (wrap64 (x4 + 1)))) else (if x3 > 3 then (some false) else (chicanelaw39_light.l0 k x0 x3 (wrap64 (x4 + 1))))
end
def chicanelaw39_light.f (k : Nat) (a0 : ByteArray) : Option (Bool) := chicanelaw39_light.l0 k a0 0 0
theorem chicanelaw39_light.mono_l : ∀ k, (∀ y0 y1 y2, LeO (chicanelaw39_light.l0 k y0 y1 y2) (chicanelaw39_light.l0 (k + 1) y0 y1 y2)) ∧ (∀ y0 y1 y2 y3, LeO (chicanelaw39_light.j1 k y0 y1 y2 y3) (chicanelaw39_light.j1 (k + 1) y0 y1 y2 y3))
  | 0 => ⟨fun _ _ _ r h => by simp [chicanelaw39_light.l0] at h, fun _ _ _ _ r h => by simp [chicanelaw39_light.j1] at h⟩
  | k + 1 => by
    obtain ⟨ih0, ih1⟩ := chicanelaw39_light.mono_l k
    refine ⟨?_, ?_⟩
    · intro y0 y1 y2
      unfold chicanelaw39_light.l0
      repeat' first
      | (with_reducible exact ih0 _ _ _)
      | (with_reducible exact ih1 _ _ _ _)
      | (with_reducible exact LeO.refl _)
      | (with_reducible exact LeO.none _)
      | (with_reducible refine LeO.ite ?_ ?_)
      | (with_reducible refine LeO.bind ?_ (fun _ => ?_))
      | exact ih0 _ _ _
      | exact ih1 _ _ _ _
      | exact LeO.none _
      | refine LeO.ite ?_ ?_
      | refine LeO.bind ?_ (fun _ => ?_)
    · intro y0 y1 y2 y3
      unfold chicanelaw39_light.j1
      repeat' first
      | (with_reducible exact ih0 _ _ _)
      | (with_reducible exact ih1 _ _ _ _)
      | (with_reducible exact LeO.refl _)
      | (with_reducible exact LeO.none _)
      | (with_reducible refine LeO.ite ?_ ?_)
      | (with_reducible refine LeO.bind ?_ (fun _ => ?_))
      | exact ih0 _ _ _
      | exact ih1 _ _ _ _
      | exact LeO.none _
      | refine LeO.ite ?_ ?_
      | refine LeO.bind ?_ (fun _ => ?_)
theorem chicanelaw39_light.mono : ∀ a0 k, LeO (chicanelaw39_light.f k a0) (chicanelaw39_light.f (k + 1) a0) := by
  intro a0 k
  obtain ⟨ih0, ih1⟩ := chicanelaw39_light.mono_l k
  unfold chicanelaw39_light.f
  repeat' first
      | (with_reducible exact ih0 _ _ _)
      | (with_reducible exact ih1 _ _ _ _)
      | (with_reducible exact LeO.refl _)
      | (with_reducible exact LeO.none _)
      | (with_reducible refine LeO.ite ?_ ?_)
      | (with_reducible refine LeO.bind ?_ (fun _ => ?_))
      | exact ih0 _ _ _
      | exact ih1 _ _ _ _
      | exact LeO.none _
      | refine LeO.ite ?_ ?_
      | refine LeO.bind ?_ (fun _ => ?_)
set_option maxHeartbeats 8000000 in
set_option maxRecDepth 100000 in
theorem chicanelaw39_light.calls (k : Nat) (a0 : ByteArray) (r : Bool) (w : World) (h : chicanelaw39_light.f k a0 = some r) :
    Calls Tryd.prog 9 #[.string a0] w fun e w' => e = .returned (.bool r) ∧ Drawn0 w w' := by
  have H : (chicanelaw39_light.l0 k a0 0 0) = some r := h
  clear h
  have H' := Aside0.mk H
  clear H
  go_enter Tryd.func9, Tryd.ntmps9
  go_wp2
  go_loopg [3, 4] k (fun kq v3 v4 w' => ∃ (x3_1 : Int) (x4_1 : Int), v3 = .int .i64 x3_1 ∧ v4 = .int .i64 x4_1 ∧ Aside0 (chicanelaw39_light.l0 kq a0 x3_1 x4_1 = some r) ∧ Aside0 (kq ≤ k) ∧ Drawn0 w w')
  case atStart => exact ⟨(0), (0), (by first | rfl | (simp; done) | (simp [*]; done)), (by first | rfl | (simp; done) | (simp [*]; done)), H', ⟨Nat.le_refl _⟩, by repeat (first | exact Drawn0.refl _ | apply Drawn0.step)⟩
  case round =>
    clear H'
    obtain ⟨x3_1, x4_1, rfl, rfl, HA, HK1, ⟨m1, rfl⟩⟩ := hrel
    cases gk with
    | zero => exact absurd HA.out (by simp [chicanelaw39_light.l0])
    | succ k1 =>
      have H := HA.out
      clear HA
      simp only [chicanelaw39_light.l0] at H
      by_cases c2 : x4_1 < (a0.size : Int)
      · rw [if_pos c2] at H
        have c2b0 : decide (x4_1 < (a0.size : Int)) = true := decide_eq_true c2
        clear c2
        have HC3 := Aside0.mk H
        clear H
        go_upto_region 6 with (fail)
        go_cut [22] (fun v22 wc => ∃ (kq : Nat) (x22_2 : Bool), v22 = .bool x22_2 ∧ Aside0 (chicanelaw39_light.j1 kq a0 (wrap64 (x3_1 + 1)) x4_1 x22_2 = some r) ∧ Aside0 (kq ≤ k1) ∧ Drawn0 w wc)
        case first =>
          have H := HC3.out
          clear HC3
          by_cases c4 : 0 ≤ x4_1
          · rw [if_pos c4] at H
            have c4b0 : decide (0 ≤ x4_1) = true := decide_eq_true c4
            clear c4
            (first | rw [c4b0] | (simp only [i64_w, i32_w]; rw [c4b0]) | skip)
            by_cases c6 : (bt a0 x4_1) < 48
            · rw [if_pos c6] at H
              have c6b0 : decide ((bt a0 x4_1) < 48) = true := decide_eq_true c6
              clear c6
              have H' := Aside0.mk H
              clear H
              have p5 : 0 ≤ (x4_1 : Int) := of_decide_eq_true (by first | (with_reducible assumption) | assumption)
              have q5 : x4_1 < (a0.size : Int) := of_decide_eq_true (by first | (with_reducible assumption) | assumption)
              have hx5 := bt_at a0 x4_1
              replace p5 := eq_true p5
              replace q5 := eq_true q5
              go_wp2
              go_meet
              case rel => exact ⟨_, (true), (by first | rfl | (simp; done) | (simp [*]; done)), H', ⟨by have := HK1.out; first | omega | exact Nat.le_refl _⟩, by repeat (first | exact Drawn0.refl _ | apply Drawn0.step)⟩
            · rw [if_neg c6] at H
              have c6b0 : decide ((bt a0 x4_1) < 48) = false := decide_eq_false c6
              clear c6
              have H' := Aside0.mk H
              clear H
              have p5 : 0 ≤ (x4_1 : Int) := of_decide_eq_true (by first | (with_reducible assumption) | assumption)
              have q5 : x4_1 < (a0.size : Int) := of_decide_eq_true (by first | (with_reducible assumption) | assumption)
              have hx5 := bt_at a0 x4_1
              replace p5 := eq_true p5
              replace q5 := eq_true q5
              have p7 : 0 ≤ (x4_1 : Int) := of_decide_eq_true (by first | (with_reducible assumption) | assumption)
              have q7 : x4_1 < (a0.size : Int) := of_decide_eq_true (by first | (with_reducible assumption) | assumption)
              have hx7 := bt_at a0 x4_1
              replace p7 := eq_true p7
              replace q7 := eq_true q7
              go_wp2
              go_meet
              case rel => exact ⟨_, (decide ((bt a0 x4_1) > 57)), (by first | rfl | (simp; done) | (simp [*]; done)), H', ⟨by have := HK1.out; first | omega | exact Nat.le_refl _⟩, by repeat (first | exact Drawn0.refl _ | apply Drawn0.step)⟩
          · rw [if_neg c4] at H
            exact absurd H (by simp)
        case rest =>
          clear HC3
          try clear c2
          try clear c2b0
          try clear p2
          try clear c4
          try clear c4b0
          try clear p5
          try clear q5
          try clear hx5
          try clear c6
          try clear c6b0
          try clear p6
          try clear p7
          try clear q7
          try clear hx7
          try clear p5
          try clear p7
          try clear q5
          try clear q7
          obtain ⟨kq, x22_2, rfl, HA, HJ2, ⟨mc2, rfl⟩⟩ := hcut
          cases kq with
          | zero => exact absurd HA.out (by simp [chicanelaw39_light.j1])
          | succ kj2 =>
            have H := HA.out
            clear HA
            simp only [chicanelaw39_light.j1] at H
            by_cases c8 : x22_2 = true
            · subst c8
              have H1 : (if 0 > 3 then (some false) else (chicanelaw39_light.l0 kj2 a0 0 (wrap64 (x4_1 + 1)))) = some r := by rw [if_pos rfl] at H; exact H
              clear H
              have H := H1
              clear H1
              by_cases c9 : 0 > 3
              · exact absurd c9 (by decide)
              · rw [if_neg c9] at H
                have c9b0 : decide (3 < 0) = false := decide_eq_false c9
                clear c9
                have H' := Aside0.mk H
                clear H
                go_wp2
                go_roundg kj2
                case measure => have := HK1.out; have := HJ2.out; omega
                case rel => exact ⟨(0), (wrap64 (x4_1 + 1)), (by first | rfl | (simp; done) | (simp [*]; done)), (by first | rfl | (simp; done) | (simp [*]; done)), H', ⟨by have := HK1.out; have := HJ2.out; omega⟩, by repeat (first | exact Drawn0.refl _ | apply Drawn0.step)⟩
            · replace c8 := Bool.eq_false_iff.mpr c8
              subst c8
              have H1 : (if (wrap64 (x3_1 + 1)) > 3 then (some false) else (chicanelaw39_light.l0 kj2 a0 (wrap64 (x3_1 + 1)) (wrap64 (x4_1 + 1)))) = some r := by rw [if_neg (show ¬ (false = true) by decide)] at H; exact H
              clear H
              have H := H1
              clear H1
              by_cases c10 : (wrap64 (x3_1 + 1)) > 3
              · rw [if_pos c10] at H
                have c10b0 : decide (3 < (wrap64 (x3_1 + 1))) = true := decide_eq_true c10
                clear c10
                obtain rfl := Option.some.inj H
                go_wp2
                go_ret
                exact ⟨by first | rfl | (simp; done) | (simp [*]; done), by repeat (first | exact Drawn0.refl _ | apply Drawn0.step)⟩
              · rw [if_neg c10] at H
                have c10b0 : decide (3 < (wrap64 (x3_1 + 1))) = false := decide_eq_false c10
                clear c10
                have H' := Aside0.mk H
                clear H
                go_wp2
                go_roundg kj2
                case measure => have := HK1.out; have := HJ2.out; omega
                case rel => exact ⟨((wrap64 (x3_1 + 1))), (wrap64 (x4_1 + 1)), (by first | rfl | (simp; done) | (simp [*]; done)), (by first | rfl | (simp; done) | (simp [*]; done)), H', ⟨by have := HK1.out; have := HJ2.out; omega⟩, by repeat (first | exact Drawn0.refl _ | apply Drawn0.step)⟩
      · rw [if_neg c2] at H
        have c2b0 : decide (x4_1 < (a0.size : Int)) = false := decide_eq_false c2
        clear c2
        obtain rfl := Option.some.inj H
        go_wp2
        go_ret
        exact ⟨by first | rfl | (simp; done) | (simp [*]; done), by repeat (first | exact Drawn0.refl _ | apply Drawn0.step)⟩

-- NOT PRINTED: function 139 (bytealg_IndexByteString)

-- NOT PRINTED: function 127 (stringslite_IndexByte)

-- NOT PRINTED: function 128 (bytealg_IndexString)

end Go.Proofs.YtbhbpopebmdemaaDoor.PL

namespace Go.Proofs.YtbhbpopebmdemaaDoor
open Go.RowKit Go.Proofs.YtbhbpopebmdemaaDoorW.PrintWords Go.Proofs.YtbhbpopebmdemaaDoorW.PrintLast Go.Proofs.YtbhbpopebmdemaaDoorW.PrintMore
open ChiPure Go.Lib
set_option linter.unusedVariables false
set_option linter.unusedSimpArgs false

theorem light_l' (s : ByteArray) (hs : s.size ≤ 140737488355328) : ∀ (d k i : Nat) (m : Int), i + d = s.size → 2 * d < k → 0 ≤ m → m ≤ 3 → ∃ b, PL.chicanelaw39_light.l0 k s m (i : Int) = some b ∧ (b = true → s.size ≤ 400)
  | 0, k, i, m, hi, hk, _, _ => by
    obtain ⟨k1, rfl⟩ : ∃ k1, k = k1 + 1 := ⟨k - 1, by omega⟩
    unfold PL.chicanelaw39_light.l0
    rw [if_neg (by omega)]
    exact ⟨_, rfl, fun h => by have := of_decide_eq_true h; omega⟩
  | d + 1, k, i, m, hi, hk, h0, h3 => by
    obtain ⟨k1, rfl⟩ : ∃ k1, k = k1 + 1 + 1 := ⟨k - 2, by omega⟩
    have hw : wrap64 ((i : Int) + 1) = ((i + 1 : Nat) : Int) := by unfold wrap64; omega
    have hm : wrap64 (m + 1) = m + 1 := by unfold wrap64; omega
    have key : ∀ x : Bool, ∃ b, PL.chicanelaw39_light.j1 (k1 + 1) s (m + 1) (i : Int) x = some b ∧ (b = true → s.size ≤ 400) := by
      intro x
      unfold PL.chicanelaw39_light.j1
      rw [hw]
      cases x with
      | true =>
        rw [if_pos rfl, if_neg (by omega)]
        exact light_l' s hs d k1 (i + 1) 0 (by omega) (by omega) (by omega) (by omega)
      | false =>
        rw [if_neg (by simp)]
        by_cases h : m + 1 > 3
        · rw [if_pos h]; exact ⟨false, rfl, fun h => by cases h⟩
        · rw [if_neg h]
          exact light_l' s hs d k1 (i + 1) (m + 1) (by omega) (by omega) (by omega) (by omega)
    unfold PL.chicanelaw39_light.l0
    rw [if_pos (by omega), if_pos (by omega), hm]
    split
    · exact key true
    · exact key _

theorem light_any' (s : ByteArray) (hs : s.size ≤ 140737488355328) : ∃ (b : Bool), (b = true → s.size ≤ 400) ∧ ∀ w, Calls Tryd.prog 9 #[.string s] w fun e w' => e = .returned (.bool b) ∧ Drawn0 w w' := by
  obtain ⟨b, h, hb⟩ := light_l' s hs s.size (2 * s.size + 1) 0 0 (by omega) (by omega) (by omega) (by omega)
  exact ⟨b, hb, fun w => PL.chicanelaw39_light.calls (2 * s.size + 1) s b w h⟩

theorem same_l' (xs : List Ctl) (hl : xs.length ≤ 4611686018427387904) : ∀ (d k i : Nat), i + d = xs.length → d < k → PA.chicaneref19_Same.l0 k xs xs (i : Int) = some true
  | 0, k, i, hi, hk => by
    obtain ⟨k1, rfl⟩ : ∃ k1, k = k1 + 1 := ⟨k - 1, by omega⟩
    unfold PA.chicaneref19_Same.l0
    rw [if_neg (by omega)]
  | d + 1, k, i, hi, hk => by
    obtain ⟨k1, rfl⟩ : ∃ k1, k = k1 + 1 := ⟨k - 1, by omega⟩
    unfold PA.chicaneref19_Same.l0
    rw [if_pos (by omega), if_pos (by omega), if_pos (by omega), if_neg (by simp)]
    have hw : wrap64 ((i : Int) + 1) = ((i + 1 : Nat) : Int) := by unfold wrap64; omega
    rw [hw]
    exact same_l' xs hl d k1 (i + 1) (by omega) (by omega)
theorem same_self' (xs : List Ctl) (hl : xs.length ≤ 4611686018427387904) : PA.chicaneref19_Same.f (xs.length + 1) xs xs = some true := by
  unfold PA.chicaneref19_Same.f
  rw [if_pos rfl]
  exact same_l' xs hl xs.length _ 0 (by omega) (by omega)
theorem takeC_ok' {last : Int} {st : Int × Int} {p : List ByteArray} (h : (takeSt last st p).1 = 0) : okC (takeC last st p) = true := by
  have h1 := take_n h 1 (by omega)
  have h2 := take_n h 2 (by omega)
  have h3 := take_n h 3 (by omega)
  have h4 := take_n h 4 (by omega)
  have h5 := take_n h 5 (by omega)
  simp only [okC, takeC, Bool.and_eq_true]
  exact ⟨decide_eq_true h1, decide_eq_true h2, decide_eq_true h3, decide_eq_true h4, decide_eq_true h5⟩

theorem pLoop_ok' (all : Int) : ∀ (f : Nat) (b : BS) (out : List Ctl), out.all okC = true → out.length ≤ 16777216 → (pLoop all f b out).2.all okC = true ∧ (pLoop all f b out).2.length ≤ 16777216
  | 0, b, out, h1, h2 => ⟨h1, h2⟩
  | f + 1, b, out, h1, h2 => by
    unfold pLoop
    split
    · split
      · exact ⟨h1, h2⟩
      · rename_i p hp
        split
        · exact pLoop_ok' all f _ out h1 h2
        · rename_i hbig
          split
          · rename_i hz
            have hn := take_n hz 0 (by omega)
            refine pLoop_ok' all f _ _ ?_ ?_
            · rw [List.all_append, h1, Bool.true_and, List.all_eq_true]
              intro x hx
              rw [(List.mem_replicate.1 hx).2]
              exact takeC_ok' hz
            · rw [List.length_append, List.length_replicate]
              have h0 : bLow 0 = 1 := rfl
              omega
          · exact pLoop_ok' all f _ out h1 h2
    · exact ⟨h1, h2⟩

theorem parse_ok' (s : ByteArray) : (parseR s).1.all okC = true ∧ (parseR s).1.length ≤ 16777216 := by
  unfold parseR
  simp only
  split
  · exact pLoop_ok' _ _ _ [] rfl (by simp)
  · exact ⟨rfl, by simp⟩

end Go.Proofs.YtbhbpopebmdemaaDoor

namespace Go.Proofs.YtbhbpopebmdemaaDoor
open Go.RowKit Go.Proofs.YtbhbpopebmdemaaDoorW.PrintWords Go.Proofs.YtbhbpopebmdemaaDoorW.PrintLast Go.Proofs.YtbhbpopebmdemaaDoorW.PrintMore
open ChiPure Go.Lib Go.Shelf
set_option linter.unusedVariables false
set_option linter.unusedSimpArgs false

set_option maxRecDepth 100000 in
set_option maxHeartbeats 4000000 in
theorem scriptParses_any (s : ByteArray) (m : Int) (w : World) (hm : w.cell? ⟨2, 0, none⟩ = some (.int .i64 m)) (hs : s.size ≤ 140737488355328) :
    Calls Tryd.prog 3 #[.string s] w fun e w' => e = .returned (.bool true) ∧ Below w.heap.size w w' := by
  have h2 : 2 < w.heap.size := by
    obtain ⟨o, ho, _⟩ := cells_of_cell hm
    exact (Array.getElem?_eq_some_iff.1 ho).1
  obtain ⟨b, hb, hl⟩ := light_any' s hs
  have hlw := hl w
  clear hl
  cases b with
  | false =>
    go_enter Tryd.func3, Tryd.ntmps3
    go_wp2_with fail
    refine hlw.mono ?_
    rintro e w1 ⟨rfl, hd⟩
    clear hlw
    go_wp2_with fail
    go_ret
    exact ⟨rfl, hd.below⟩
  | true =>
    have hsz := hb rfl
    clear hb
    have hok := (parse_ok' s).2
    go_enter Tryd.func3, Tryd.ntmps3
    go_wp2_with fail
    refine hlw.mono ?_
    rintro e w1 ⟨rfl, hd1⟩
    clear hlw
    have hb1 := hd1.below
    have hp := parse_any s m w1 (by omega) ((hb1.cell h2).trans hm)
    have hq := fun W => rparse_any s W (by omega)
    unfold ParsePost at hp hq
    generalize parseR s = R at *
    obtain ⟨xs, e0, at0⟩ := R
    simp only at hok hp hq
    have hse := same_self' xs (by omega)
    go_wp2_with fail
    refine hp.mono ?_
    rintro e w2 ⟨v, rfl, hR, hb2⟩
    clear hp
    have hbw2 : Below w.heap.size w w2 := hb1.trans (hb2.mono hb1.size)
    obtain ⟨Av, cv, rfl, hcv, _⟩ := Kd.R_reads hR
    have hF2 : Kd.F PA.k35 w2 (fun k => k < w2.heap.size) Av xs.length xs := Kd.F_mono (Kd.R_F (Kd.R_bound hR)) (fun k hk => hk.2.2.1)
    clear hR hb1 hd1 hb2 hsz hok
    dsimp only
    go_wp2_with fail
    refine (hq w2).mono ?_
    rintro e w4 ⟨v4, rfl, hR4, hb4⟩
    clear hq
    have hbw4 : Below w.heap.size w w4 := hbw2.trans (hb4.mono hbw2.size)
    obtain ⟨A4, c4, rfl, hc4, hC4⟩ := Kd.R_reads hR4
    have hC2 := Kd.F_now (Kd.F_below hF2 hb4)
    have hsm := PA.chicaneref19_Same.calls (xs.length + 1) Av cv xs A4 c4 xs true w4 hC2 hcv hC4 hc4 hse
    have hm4 := (hbw4.cell h2).trans hm
    clear hR4 hF2 hb4 hse hC2 hC4
    dsimp only
    go_wp2_with fail
    refine hsm.mono ?_
    rintro e w5 ⟨rfl, hd5⟩
    clear hsm
    have hb5 := hd5.below
    have hbw5 : Below w.heap.size w w5 := hbw4.trans (hb5.mono hbw4.size)
    have haw := awake_any m w5 ((hbw5.cell h2).trans hm)
    go_wp2_with fail
    refine haw.mono ?_
    rintro e w6 ⟨rfl, hb6⟩
    clear haw
    go_wp2_with fail
    go_ret
    exact ⟨rfl, hbw5.trans (hb6.mono hbw5.size)⟩
end Go.Proofs.YtbhbpopebmdemaaDoor
