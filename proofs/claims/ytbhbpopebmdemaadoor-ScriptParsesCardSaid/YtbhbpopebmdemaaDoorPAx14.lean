-- printed by the kit's print.py for texts of this session's own, and turned by hand where it was wanted
import Derived.Test.YtbhbpopebmdemaaDoorPAx0
import Derived.Test.YtbhbpopebmdemaaDoorPAx10
import Derived.Test.YtbhbpopebmdemaaDoorPAx12
import Derived.Test.YtbhbpopebmdemaaDoorPAx13
namespace Go.Proofs.YtbhbpopebmdemaaDoor.PA
open Go.RowKit Go.Proofs.YtbhbpopebmdemaaDoorW.PrintWords Go.Proofs.YtbhbpopebmdemaaDoorW.PrintLast Go.Proofs.YtbhbpopebmdemaaDoorW.PrintMore
attribute [local go_sem] max2_int min2_int max_two min_two max_three min_three max_four min_four   -- for this text's walks alone
set_option linter.unusedVariables false
set_option linter.unusedSimpArgs false

/-! ### chicaneref39_one: function 39 -/
def chicaneref39_one.j0 : Nat → List ByteArray → Int → List ByteArray → Int → Int → Int → Int → Int → Int → Int → Int → Int → Bool → Bool → Option (Int × Int × Int × Int × Int × Int × Bool × Bool × Int × Int × Int × Int)
  | 0, _, _, _, _, _, _, _, _, _, _, _, _, _, _ => none
  | k + 1, x1, x7, x1000, x1001, x1002, x1003, x1004, x159000, x159001, x159002, x159003, x159004, x159005, x159006 => if (x1.length : Int) > 7 then (if x159006 = true then ((chicaneref36_B_One.f k x1000 x1001 x1002 x1003 x1004 (⟨#[]⟩ : ByteArray) (([(⟨#[97, 117, 116, 111]⟩ : ByteArray)] : List ByteArray))).bind fun bt207 => (if 7 < (x1.length : Int) then ((chicaneref36_B_One.f k x1000 bt207.2.1 bt207.2.2.1 bt207.2.2.2.1 bt207.2.2.2.2 (rdOf ByteArray.empty x1 7) (([(⟨#[114, 101, 115, 101, 116]⟩ : ByteArray)] : List ByteArray))).bind fun bt216 => (some (x7, x159000, x159001, x159002, x159003, x159004, x159005, true, bt216.2.1, bt216.2.2.1, bt216.2.2.2.1, bt216.2.2.2.2))) else (none))) else (if 7 < (x1.length : Int) then ((chicaneref36_B_One.f k x1000 x1001 x1002 x1003 x1004 (rdOf ByteArray.empty x1 7) (([(⟨#[114, 101, 115, 101, 116]⟩ : ByteArray)] : List ByteArray))).bind fun bt225 => (some (x7, x159000, x159001, x159002, x159003, x159004, x159005, true, bt225.2.1, bt225.2.2.1, bt225.2.2.2.1, bt225.2.2.2.2))) else (none))) else (some (x7, x159000, x159001, x159002, x159003, x159004, x159005, x159006, x1001, x1002, x1003, x1004))
def chicaneref39_one.f (k : Nat) (s0_0 : List ByteArray) (s0_1 : Int) (s0_2 : Int) (s0_3 : Int) (s0_4 : Int) (l1 : List ByteArray) : Option (Int × Int × Int × Int × Int × Int × Bool × Bool × Int × Int × Int × Int) := if 0 < (l1.length : Int) then ((chicaneref36_B_Int.f k s0_0 s0_1 s0_2 s0_3 s0_4 (rdOf ByteArray.empty l1 0) 1 16777216).bind fun bt160 => (if 1 < (l1.length : Int) then ((chicaneref36_B_Int.f k s0_0 bt160.2.1 bt160.2.2.1 bt160.2.2.2.1 bt160.2.2.2.2 (rdOf ByteArray.empty l1 1) 0 255).bind fun bt166 => (if 2 < (l1.length : Int) then ((chicaneref36_B_Int.f k s0_0 bt166.2.1 bt166.2.2.1 bt166.2.2.2.1 bt166.2.2.2.2 (rdOf ByteArray.empty l1 2) 0 255).bind fun bt172 => (if 3 < (l1.length : Int) then ((chicaneref36_B_Int.f k s0_0 bt172.2.1 bt172.2.2.1 bt172.2.2.2.1 bt172.2.2.2.2 (rdOf ByteArray.empty l1 3) 0 255).bind fun bt178 => (if 4 < (l1.length : Int) then ((chicaneref36_B_Int.f k s0_0 bt178.2.1 bt178.2.2.1 bt178.2.2.2.1 bt178.2.2.2.2 (rdOf ByteArray.empty l1 4) (-127) 127).bind fun bt184 => (if 5 < (l1.length : Int) then ((chicaneref36_B_Int.f k s0_0 bt184.2.1 bt184.2.2.1 bt184.2.2.2.1 bt184.2.2.2.2 (rdOf ByteArray.empty l1 5) (-1) 8).bind fun bt190 => (if (l1.length : Int) > 6 then (if 6 < (l1.length : Int) then ((chicaneref36_B_One.f k s0_0 bt190.2.1 bt190.2.2.1 bt190.2.2.2.1 bt190.2.2.2.2 (rdOf ByteArray.empty l1 6) (([(⟨#[97, 117, 116, 111]⟩ : ByteArray), (⟨#[114, 101, 115, 101, 116]⟩ : ByteArray)] : List ByteArray))).bind fun bt199 => (chicaneref39_one.j0 k l1 bt160.1 s0_0 bt199.2.1 bt199.2.2.1 bt199.2.2.2.1 bt199.2.2.2.2 bt166.1 bt172.1 bt178.1 bt184.1 bt190.1 (!(bt199.1 == 1)) (bt199.1 == 1))) else (none)) else (chicaneref39_one.j0 k l1 bt160.1 s0_0 bt190.2.1 bt190.2.2.1 bt190.2.2.2.1 bt190.2.2.2.2 bt166.1 bt172.1 bt178.1 bt184.1 bt190.1 false false))) else (none))) else (none))) else (none))) else (none))) else (none))) else (none)
theorem chicaneref39_one.mono_l : ∀ k, (∀ y0 y1 y2 y3 y4 y5 y6 y7 y8 y9 y10 y11 y12 y13, LeO (chicaneref39_one.j0 k y0 y1 y2 y3 y4 y5 y6 y7 y8 y9 y10 y11 y12 y13) (chicaneref39_one.j0 (k + 1) y0 y1 y2 y3 y4 y5 y6 y7 y8 y9 y10 y11 y12 y13))
  | 0 => fun _ _ _ _ _ _ _ _ _ _ _ _ _ _ r h => by simp [chicaneref39_one.j0] at h
  | k + 1 => by
    have ih0 := chicaneref39_one.mono_l k
    · intro y0 y1 y2 y3 y4 y5 y6 y7 y8 y9 y10 y11 y12 y13
      unfold chicaneref39_one.j0
      repeat' first
      | (with_reducible exact ih0 _ _ _ _ _ _ _ _ _ _ _ _ _ _)
      | (with_reducible exact chicaneref36_B_Int.mono _ _ _ _ _ _ _ _ _)
      | (with_reducible exact chicaneref36_B_One.mono _ _ _ _ _ _ _ _)
      | (with_reducible exact LeO.refl _)
      | (with_reducible exact LeO.none _)
      | (with_reducible refine LeO.ite ?_ ?_)
      | (with_reducible refine LeO.bind ?_ (fun _ => ?_))
      | exact ih0 _ _ _ _ _ _ _ _ _ _ _ _ _ _
      | exact chicaneref36_B_Int.mono _ _ _ _ _ _ _ _ _
      | exact chicaneref36_B_One.mono _ _ _ _ _ _ _ _
      | exact LeO.none _
      | refine LeO.ite ?_ ?_
      | refine LeO.bind ?_ (fun _ => ?_)
theorem chicaneref39_one.mono : ∀ a0 a1 a2 a3 a4 a5 k, LeO (chicaneref39_one.f k a0 a1 a2 a3 a4 a5) (chicaneref39_one.f (k + 1) a0 a1 a2 a3 a4 a5) := by
  intro a0 a1 a2 a3 a4 a5 k
  have ih0 := chicaneref39_one.mono_l k
  unfold chicaneref39_one.f
  repeat' first
      | (with_reducible exact ih0 _ _ _ _ _ _ _ _ _ _ _ _ _ _)
      | (with_reducible exact chicaneref36_B_Int.mono _ _ _ _ _ _ _ _ _)
      | (with_reducible exact chicaneref36_B_One.mono _ _ _ _ _ _ _ _)
      | (with_reducible exact LeO.refl _)
      | (with_reducible exact LeO.none _)
      | (with_reducible refine LeO.ite ?_ ?_)
      | (with_reducible refine LeO.bind ?_ (fun _ => ?_))
      | exact ih0 _ _ _ _ _ _ _ _ _ _ _ _ _ _
      | exact chicaneref36_B_Int.mono _ _ _ _ _ _ _ _ _
      | exact chicaneref36_B_One.mono _ _ _ _ _ _ _ _
      | exact LeO.none _
      | refine LeO.ite ?_ ?_
      | refine LeO.bind ?_ (fun _ => ?_)
set_option maxHeartbeats 8000000 in
set_option maxRecDepth 100000 in
theorem chicaneref39_one.calls (k : Nat) (g : Nat) (s0_0 : List ByteArray) (s0_1 : Int) (s0_2 : Int) (s0_3 : Int) (s0_4 : Int) (A1 : Option Addr) (c1 : Nat) (l1 : List ByteArray) (r1 : Int) (r2 : Int) (r3 : Int) (r4 : Int) (r5 : Int) (r6 : Int) (r7 : Bool) (r8 : Bool) (r9 : Int) (r10 : Int) (r11 : Int) (r12 : Int) (w0 w : World) (hI : IsS56 w0 w g s0_0 s0_1 s0_2 s0_3 s0_4) (hB : Below w0.heap.size w0 w) (hr1 : Kd.C Kd.string w A1 l1.length l1) (hc1 : l1.length ≤ c1) (hf1 : ∀ ad, A1 = some ad → 0 < l1.length → ad.block ≠ g) (h : chicaneref39_one.f k s0_0 s0_1 s0_2 s0_3 s0_4 l1 = some (r1, r2, r3, r4, r5, r6, r7, r8, r9, r10, r11, r12)) :
    Calls Tryd.prog 39 #[.pointer (some ⟨g, 0, none⟩), .slice A1 l1.length c1] w fun e w' => e = .returned (.tuple #[.int .i64 r1, .agg #[.int .i64 r2, .int .i64 r3, .int .i64 r4, .int .i64 r5, .int .i64 r6, .bool r7, .bool r8]]) ∧ IsS56 w0 w' g s0_0 r9 r10 r11 r12 ∧ Below w0.heap.size w0 w' ∧ KeepBut w w' g none := by
  have hu35 := Tryd.underlying35
  have HR1 := Aside0.mk hr1
  have HC1 := Aside0.mk hc1
  clear hr1 hc1
  have HI0 := Aside0.mk hI
  have HK := Aside0.mk (KeepBut.refl w g none)
  have HL := Aside0.mk hB.size
  clear hI
  have HW0 := Aside0.mk hB.size
  have HB := Aside0.mk hB
  clear hB
  have H : (if 0 < (l1.length : Int) then ((chicaneref36_B_Int.f k s0_0 s0_1 s0_2 s0_3 s0_4 (rdOf ByteArray.empty l1 0) 1 16777216).bind fun bt160 => (if 1 < (l1.length : Int) then ((chicaneref36_B_Int.f k s0_0 bt160.2.1 bt160.2.2.1 bt160.2.2.2.1 bt160.2.2.2.2 (rdOf ByteArray.empty l1 1) 0 255).bind fun bt166 => (if 2 < (l1.length : Int) then ((chicaneref36_B_Int.f k s0_0 bt166.2.1 bt166.2.2.1 bt166.2.2.2.1 bt166.2.2.2.2 (rdOf ByteArray.empty l1 2) 0 255).bind fun bt172 => (if 3 < (l1.length : Int) then ((chicaneref36_B_Int.f k s0_0 bt172.2.1 bt172.2.2.1 bt172.2.2.2.1 bt172.2.2.2.2 (rdOf ByteArray.empty l1 3) 0 255).bind fun bt178 => (if 4 < (l1.length : Int) then ((chicaneref36_B_Int.f k s0_0 bt178.2.1 bt178.2.2.1 bt178.2.2.2.1 bt178.2.2.2.2 (rdOf ByteArray.empty l1 4) (-127) 127).bind fun bt184 => (if 5 < (l1.length : Int) then ((chicaneref36_B_Int.f k s0_0 bt184.2.1 bt184.2.2.1 bt184.2.2.2.1 bt184.2.2.2.2 (rdOf ByteArray.empty l1 5) (-1) 8).bind fun bt190 => (if (l1.length : Int) > 6 then (if 6 < (l1.length : Int) then ((chicaneref36_B_One.f k s0_0 bt190.2.1 bt190.2.2.1 bt190.2.2.2.1 bt190.2.2.2.2 (rdOf ByteArray.empty l1 6) (([(⟨#[97, 117, 116, 111]⟩ : ByteArray), (⟨#[114, 101, 115, 101, 116]⟩ : ByteArray)] : List ByteArray))).bind fun bt199 => (chicaneref39_one.j0 k l1 bt160.1 s0_0 bt199.2.1 bt199.2.2.1 bt199.2.2.2.1 bt199.2.2.2.2 bt166.1 bt172.1 bt178.1 bt184.1 bt190.1 (!(bt199.1 == 1)) (bt199.1 == 1))) else (none)) else (chicaneref39_one.j0 k l1 bt160.1 s0_0 bt190.2.1 bt190.2.2.1 bt190.2.2.2.1 bt190.2.2.2.2 bt166.1 bt172.1 bt178.1 bt184.1 bt190.1 false false))) else (none))) else (none))) else (none))) else (none))) else (none))) else (none)) = some (r1, r2, r3, r4, r5, r6, r7, r8, r9, r10, r11, r12) := h
  clear h
  by_cases c3 : 0 < (l1.length : Int)
  · rw [if_pos c3] at H
    have c3b0 : decide (0 < (l1.length : Int)) = true := decide_eq_true c3
    have c3b1 : decide (0 < l1.length) = true := decide_eq_true (by omega)
    clear c3
    replace H := Option.bind_eq_some_iff.mp H
    obtain ⟨⟨t160, t161, t162, t163, t164⟩, A40, H⟩ := H
    replace H : (if 1 < (l1.length : Int) then ((chicaneref36_B_Int.f k s0_0 t161 t162 t163 t164 (rdOf ByteArray.empty l1 1) 0 255).bind fun bt166 => (if 2 < (l1.length : Int) then ((chicaneref36_B_Int.f k s0_0 bt166.2.1 bt166.2.2.1 bt166.2.2.2.1 bt166.2.2.2.2 (rdOf ByteArray.empty l1 2) 0 255).bind fun bt172 => (if 3 < (l1.length : Int) then ((chicaneref36_B_Int.f k s0_0 bt172.2.1 bt172.2.2.1 bt172.2.2.2.1 bt172.2.2.2.2 (rdOf ByteArray.empty l1 3) 0 255).bind fun bt178 => (if 4 < (l1.length : Int) then ((chicaneref36_B_Int.f k s0_0 bt178.2.1 bt178.2.2.1 bt178.2.2.2.1 bt178.2.2.2.2 (rdOf ByteArray.empty l1 4) (-127) 127).bind fun bt184 => (if 5 < (l1.length : Int) then ((chicaneref36_B_Int.f k s0_0 bt184.2.1 bt184.2.2.1 bt184.2.2.2.1 bt184.2.2.2.2 (rdOf ByteArray.empty l1 5) (-1) 8).bind fun bt190 => (if (l1.length : Int) > 6 then (if 6 < (l1.length : Int) then ((chicaneref36_B_One.f k s0_0 bt190.2.1 bt190.2.2.1 bt190.2.2.2.1 bt190.2.2.2.2 (rdOf ByteArray.empty l1 6) (([(⟨#[97, 117, 116, 111]⟩ : ByteArray), (⟨#[114, 101, 115, 101, 116]⟩ : ByteArray)] : List ByteArray))).bind fun bt199 => (chicaneref39_one.j0 k l1 t160 s0_0 bt199.2.1 bt199.2.2.1 bt199.2.2.2.1 bt199.2.2.2.2 bt166.1 bt172.1 bt178.1 bt184.1 bt190.1 (!(bt199.1 == 1)) (bt199.1 == 1))) else (none)) else (chicaneref39_one.j0 k l1 t160 s0_0 bt190.2.1 bt190.2.2.1 bt190.2.2.2.1 bt190.2.2.2.2 bt166.1 bt172.1 bt178.1 bt184.1 bt190.1 false false))) else (none))) else (none))) else (none))) else (none))) else (none)) = some (r1, r2, r3, r4, r5, r6, r7, r8, r9, r10, r11, r12) := H
    have A4 := Aside0.mk A40
    clear A40
    by_cases c5 : 1 < (l1.length : Int)
    · rw [if_pos c5] at H
      have c5b0 : decide (1 < (l1.length : Int)) = true := decide_eq_true c5
      have c5b1 : decide (1 < l1.length) = true := decide_eq_true (by omega)
      clear c5
      replace H := Option.bind_eq_some_iff.mp H
      obtain ⟨⟨t166, t167, t168, t169, t170⟩, A60, H⟩ := H
      replace H : (if 2 < (l1.length : Int) then ((chicaneref36_B_Int.f k s0_0 t167 t168 t169 t170 (rdOf ByteArray.empty l1 2) 0 255).bind fun bt172 => (if 3 < (l1.length : Int) then ((chicaneref36_B_Int.f k s0_0 bt172.2.1 bt172.2.2.1 bt172.2.2.2.1 bt172.2.2.2.2 (rdOf ByteArray.empty l1 3) 0 255).bind fun bt178 => (if 4 < (l1.length : Int) then ((chicaneref36_B_Int.f k s0_0 bt178.2.1 bt178.2.2.1 bt178.2.2.2.1 bt178.2.2.2.2 (rdOf ByteArray.empty l1 4) (-127) 127).bind fun bt184 => (if 5 < (l1.length : Int) then ((chicaneref36_B_Int.f k s0_0 bt184.2.1 bt184.2.2.1 bt184.2.2.2.1 bt184.2.2.2.2 (rdOf ByteArray.empty l1 5) (-1) 8).bind fun bt190 => (if (l1.length : Int) > 6 then (if 6 < (l1.length : Int) then ((chicaneref36_B_One.f k s0_0 bt190.2.1 bt190.2.2.1 bt190.2.2.2.1 bt190.2.2.2.2 (rdOf ByteArray.empty l1 6) (([(⟨#[97, 117, 116, 111]⟩ : ByteArray), (⟨#[114, 101, 115, 101, 116]⟩ : ByteArray)] : List ByteArray))).bind fun bt199 => (chicaneref39_one.j0 k l1 t160 s0_0 bt199.2.1 bt199.2.2.1 bt199.2.2.2.1 bt199.2.2.2.2 t166 bt172.1 bt178.1 bt184.1 bt190.1 (!(bt199.1 == 1)) (bt199.1 == 1))) else (none)) else (chicaneref39_one.j0 k l1 t160 s0_0 bt190.2.1 bt190.2.2.1 bt190.2.2.2.1 bt190.2.2.2.2 t166 bt172.1 bt178.1 bt184.1 bt190.1 false false))) else (none))) else (none))) else (none))) else (none)) = some (r1, r2, r3, r4, r5, r6, r7, r8, r9, r10, r11, r12) := H
      have A6 := Aside0.mk A60
      clear A60
      by_cases c7 : 2 < (l1.length : Int)
      · rw [if_pos c7] at H
        have c7b0 : decide (2 < (l1.length : Int)) = true := decide_eq_true c7
        have c7b1 : decide (2 < l1.length) = true := decide_eq_true (by omega)
        clear c7
        replace H := Option.bind_eq_some_iff.mp H
        obtain ⟨⟨t172, t173, t174, t175, t176⟩, A80, H⟩ := H
        replace H : (if 3 < (l1.length : Int) then ((chicaneref36_B_Int.f k s0_0 t173 t174 t175 t176 (rdOf ByteArray.empty l1 3) 0 255).bind fun bt178 => (if 4 < (l1.length : Int) then ((chicaneref36_B_Int.f k s0_0 bt178.2.1 bt178.2.2.1 bt178.2.2.2.1 bt178.2.2.2.2 (rdOf ByteArray.empty l1 4) (-127) 127).bind fun bt184 => (if 5 < (l1.length : Int) then ((chicaneref36_B_Int.f k s0_0 bt184.2.1 bt184.2.2.1 bt184.2.2.2.1 bt184.2.2.2.2 (rdOf ByteArray.empty l1 5) (-1) 8).bind fun bt190 => (if (l1.length : Int) > 6 then (if 6 < (l1.length : Int) then ((chicaneref36_B_One.f k s0_0 bt190.2.1 bt190.2.2.1 bt190.2.2.2.1 bt190.2.2.2.2 (rdOf ByteArray.empty l1 6) (([(⟨#[97, 117, 116, 111]⟩ : ByteArray), (⟨#[114, 101, 115, 101, 116]⟩ : ByteArray)] : List ByteArray))).bind fun bt199 => (chicaneref39_one.j0 k l1 t160 s0_0 bt199.2.1 bt199.2.2.1 bt199.2.2.2.1 bt199.2.2.2.2 t166 t172 bt178.1 bt184.1 bt190.1 (!(bt199.1 == 1)) (bt199.1 == 1))) else (none)) else (chicaneref39_one.j0 k l1 t160 s0_0 bt190.2.1 bt190.2.2.1 bt190.2.2.2.1 bt190.2.2.2.2 t166 t172 bt178.1 bt184.1 bt190.1 false false))) else (none))) else (none))) else (none)) = some (r1, r2, r3, r4, r5, r6, r7, r8, r9, r10, r11, r12) := H
        have A8 := Aside0.mk A80
        clear A80
        by_cases c9 : 3 < (l1.length : Int)
        · rw [if_pos c9] at H
          have c9b0 : decide (3 < (l1.length : Int)) = true := decide_eq_true c9
          have c9b1 : decide (3 < l1.length) = true := decide_eq_true (by omega)
          clear c9
          replace H := Option.bind_eq_some_iff.mp H
          obtain ⟨⟨t178, t179, t180, t181, t182⟩, A100, H⟩ := H
          replace H : (if 4 < (l1.length : Int) then ((chicaneref36_B_Int.f k s0_0 t179 t180 t181 t182 (rdOf ByteArray.empty l1 4) (-127) 127).bind fun bt184 => (if 5 < (l1.length : Int) then ((chicaneref36_B_Int.f k s0_0 bt184.2.1 bt184.2.2.1 bt184.2.2.2.1 bt184.2.2.2.2 (rdOf ByteArray.empty l1 5) (-1) 8).bind fun bt190 => (if (l1.length : Int) > 6 then (if 6 < (l1.length : Int) then ((chicaneref36_B_One.f k s0_0 bt190.2.1 bt190.2.2.1 bt190.2.2.2.1 bt190.2.2.2.2 (rdOf ByteArray.empty l1 6) (([(⟨#[97, 117, 116, 111]⟩ : ByteArray), (⟨#[114, 101, 115, 101, 116]⟩ : ByteArray)] : List ByteArray))).bind fun bt199 => (chicaneref39_one.j0 k l1 t160 s0_0 bt199.2.1 bt199.2.2.1 bt199.2.2.2.1 bt199.2.2.2.2 t166 t172 t178 bt184.1 bt190.1 (!(bt199.1 == 1)) (bt199.1 == 1))) else (none)) else (chicaneref39_one.j0 k l1 t160 s0_0 bt190.2.1 bt190.2.2.1 bt190.2.2.2.1 bt190.2.2.2.2 t166 t172 t178 bt184.1 bt190.1 false false))) else (none))) else (none)) = some (r1, r2, r3, r4, r5, r6, r7, r8, r9, r10, r11, r12) := H
          have A10 := Aside0.mk A100
          clear A100
          by_cases c11 : 4 < (l1.length : Int)
          · rw [if_pos c11] at H
            have c11b0 : decide (4 < (l1.length : Int)) = true := decide_eq_true c11
            have c11b1 : decide (4 < l1.length) = true := decide_eq_true (by omega)
            clear c11
            replace H := Option.bind_eq_some_iff.mp H
            obtain ⟨⟨t184, t185, t186, t187, t188⟩, A120, H⟩ := H
            replace H : (if 5 < (l1.length : Int) then ((chicaneref36_B_Int.f k s0_0 t185 t186 t187 t188 (rdOf ByteArray.empty l1 5) (-1) 8).bind fun bt190 => (if (l1.length : Int) > 6 then (if 6 < (l1.length : Int) then ((chicaneref36_B_One.f k s0_0 bt190.2.1 bt190.2.2.1 bt190.2.2.2.1 bt190.2.2.2.2 (rdOf ByteArray.empty l1 6) (([(⟨#[97, 117, 116, 111]⟩ : ByteArray), (⟨#[114, 101, 115, 101, 116]⟩ : ByteArray)] : List ByteArray))).bind fun bt199 => (chicaneref39_one.j0 k l1 t160 s0_0 bt199.2.1 bt199.2.2.1 bt199.2.2.2.1 bt199.2.2.2.2 t166 t172 t178 t184 bt190.1 (!(bt199.1 == 1)) (bt199.1 == 1))) else (none)) else (chicaneref39_one.j0 k l1 t160 s0_0 bt190.2.1 bt190.2.2.1 bt190.2.2.2.1 bt190.2.2.2.2 t166 t172 t178 t184 bt190.1 false false))) else (none)) = some (r1, r2, r3, r4, r5, r6, r7, r8, r9, r10, r11, r12) := H
            have A12 := Aside0.mk A120
            clear A120
            by_cases c13 : 5 < (l1.length : Int)
            · rw [if_pos c13] at H
              have c13b0 : decide (5 < (l1.length : Int)) = true := decide_eq_true c13
              have c13b1 : decide (5 < l1.length) = true := decide_eq_true (by omega)
              clear c13
              replace H := Option.bind_eq_some_iff.mp H
              obtain ⟨⟨t190, t191, t192, t193, t194⟩, A140, H⟩ := H
              replace H : (if (l1.length : Int) > 6 then (if 6 < (l1.length : Int) then ((chicaneref36_B_One.f k s0_0 t191 t192 t193 t194 (rdOf ByteArray.empty l1 6) (([(⟨#[97, 117, 116, 111]⟩ : ByteArray), (⟨#[114, 101, 115, 101, 116]⟩ : ByteArray)] : List ByteArray))).bind fun bt199 => (chicaneref39_one.j0 k l1 t160 s0_0 bt199.2.1 bt199.2.2.1 bt199.2.2.2.1 bt199.2.2.2.2 t166 t172 t178 t184 t190 (!(bt199.1 == 1)) (bt199.1 == 1))) else (none)) else (chicaneref39_one.j0 k l1 t160 s0_0 t191 t192 t193 t194 t166 t172 t178 t184 t190 false false)) = some (r1, r2, r3, r4, r5, r6, r7, r8, r9, r10, r11, r12) := H
              have A14 := Aside0.mk A140
              clear A140
              have HC15 := Aside0.mk H
              clear H
              go_enter Tryd.func39, Tryd.ntmps39
              go_upto_if 46 with (first | ((with_reducible refine gate_dst (N := 5) rfl ?_); refine box_event ?hg (N := 5) ?hd (cs := #[.int .i64 0, .int .i64 0, .int .i64 0, .int .i64 0, .int .i64 0, .bool false, .bool false]) (t := 35) ?hr ?_; (case hd => rfl); (case hg => rfl); (case hr => first | (go_simp; done) | (go_simp; rfl)); intro gb157 hg w16 hbox hb; have n0_ := Aside0.mk (IsS56.below (by repeat (first | (with_reducible first | exact HI0.out | apply IsS56.alloc | apply IsS56.drewN | apply IsS56.drew | apply IsS56.set_1 | apply IsS56.set_2 | apply IsS56.set_3 | apply IsS56.set_4) | exact HI0.out)) hb); have n1_ := Aside0.mk (KeepBut.trans (by repeat (first | (with_reducible first | exact HK.out | apply KeepBut.set_ | apply keep_drewN | apply keep_drew | apply keep_alloc) | exact HK.out)) (KeepBut.of_below hb g none) (.inl rfl)); have n2_ := Aside0.mk (below_step (by repeat (first | (with_reducible first | exact HB.out | apply below_alloc | apply pw_below_drewN | apply below_drew1 | refine below_set ?_ (IsS56.ge HI0.out)) | exact HB.out)) hb); have n3_ := Aside0.mk (hbox); have n4_ := Aside0.mk ((by rw [hg]; exact (keep_size (w := w) (g := g) (row := none) (by repeat (first | (with_reducible first | exact HK.out | apply KeepBut.set_ | apply keep_drewN | apply keep_drew | apply keep_alloc) | exact HK.out))) : w.heap.size ≤ gb157)); have n5_ := Aside0.mk ((Nat.le_trans HW0.out (by rw [hg]; exact (keep_size (w := w) (g := g) (row := none) (by repeat (first | (with_reducible first | exact HK.out | apply KeepBut.set_ | apply keep_drewN | apply keep_drew | apply keep_alloc) | exact HK.out))) : w.heap.size ≤ gb157) : w0.heap.size ≤ gb157)); have n6_ := Aside0.mk ((by rw [hg]; exact Nat.ne_of_lt (IsS56.lt (show IsS56 w0 _ g s0_0 s0_1 s0_2 s0_3 s0_4 from by repeat (first | (with_reducible first | exact HI0.out | apply IsS56.alloc | apply IsS56.drewN | apply IsS56.drew | apply IsS56.set_1 | apply IsS56.set_2 | apply IsS56.set_3 | apply IsS56.set_4) | exact HI0.out))) : g ≠ gb157)); have n7_ := Aside0.mk ((by rw [hg]; exact Nat.ne_of_gt (IsS56.lt (show IsS56 w0 _ g s0_0 s0_1 s0_2 s0_3 s0_4 from by repeat (first | (with_reducible first | exact HI0.out | apply IsS56.alloc | apply IsS56.drewN | apply IsS56.drew | apply IsS56.set_1 | apply IsS56.set_2 | apply IsS56.set_3 | apply IsS56.set_4) | exact HI0.out))) : gb157 ≠ g)); clear HI0; clear HK; clear HB; have HI0 := n0_; have HK := n1_; have HB := n2_; have BK157 := n3_; have GW157 := n4_; have GE157 := n5_; have NB0_157 := n6_; have NB157_0 := n7_; clear n0_ n1_ n2_ n3_ n4_ n5_ n6_ n7_; clear hb hbox hg) | ((with_reducible refine gate_dst (N := 6) rfl ?_); refine box_event ?hg (N := 6) ?hd (cs := #[.int .i64 0, .int .i64 0, .int .i64 0, .int .i64 0, .int .i64 0, .bool false, .bool false]) (t := 35) ?hr ?_; (case hd => rfl); (case hg => rfl); (case hr => first | (go_simp; done) | (go_simp; rfl)); intro gb158 hg w17 hbox hb; have n0_ := Aside0.mk (IsS56.below (by repeat (first | (with_reducible first | exact HI0.out | apply IsS56.alloc | apply IsS56.drewN | apply IsS56.drew | apply IsS56.set_1 | apply IsS56.set_2 | apply IsS56.set_3 | apply IsS56.set_4 | refine IsS56.far ?_ NB0_157.out _) | exact HI0.out)) hb); have n1_ := Aside0.mk (blk_below (g := gb157) (o := .cells #[.int .i64 0, .int .i64 0, .int .i64 0, .int .i64 0, .int .i64 0, .bool false, .bool false] 35 (0, 0)) (by (with_reducible repeat (first | refine blk_drewN ?_ _ | refine blk_drew ?_ | refine blk_alloc ?_ _)); exact BK157.out) hb); have n2_ := Aside0.mk (KeepBut.trans (by repeat (first | (with_reducible first | exact HK.out | apply KeepBut.set_ | apply keep_drewN | apply keep_drew | apply keep_alloc | refine keep_far ?_ GW157.out _) | exact HK.out)) (KeepBut.of_below hb g none) (.inl rfl)); have n3_ := Aside0.mk (below_step (by repeat (first | (with_reducible first | exact HB.out | apply below_alloc | apply pw_below_drewN | apply below_drew1 | refine below_set ?_ (IsS56.ge HI0.out) | refine below_set ?_ GE157.out) | exact HB.out)) hb); have n4_ := Aside0.mk (hbox); have n5_ := Aside0.mk ((by rw [hg]; exact (keep_size (w := w) (g := g) (row := none) (by repeat (first | (with_reducible first | exact HK.out | apply KeepBut.set_ | apply keep_drewN | apply keep_drew | apply keep_alloc | refine keep_far ?_ GW157.out _) | exact HK.out))) : w.heap.size ≤ gb158)); have n6_ := Aside0.mk ((Nat.le_trans HW0.out (by rw [hg]; exact (keep_size (w := w) (g := g) (row := none) (by repeat (first | (with_reducible first | exact HK.out | apply KeepBut.set_ | apply keep_drewN | apply keep_drew | apply keep_alloc | refine keep_far ?_ GW157.out _) | exact HK.out))) : w.heap.size ≤ gb158) : w0.heap.size ≤ gb158)); have n7_ := Aside0.mk ((by rw [hg]; exact Nat.ne_of_lt (blk_lt (g := gb157) (o := .cells #[.int .i64 0, .int .i64 0, .int .i64 0, .int .i64 0, .int .i64 0, .bool false, .bool false] 35 (0, 0)) (by (with_reducible repeat (first | refine blk_drewN ?_ _ | refine blk_drew ?_ | refine blk_alloc ?_ _)); exact BK157.out)) : gb157 ≠ gb158)); have n8_ := Aside0.mk ((by rw [hg]; exact Nat.ne_of_gt (blk_lt (g := gb157) (o := .cells #[.int .i64 0, .int .i64 0, .int .i64 0, .int .i64 0, .int .i64 0, .bool false, .bool false] 35 (0, 0)) (by (with_reducible repeat (first | refine blk_drewN ?_ _ | refine blk_drew ?_ | refine blk_alloc ?_ _)); exact BK157.out)) : gb158 ≠ gb157)); have n9_ := Aside0.mk ((by rw [hg]; exact Nat.ne_of_lt (IsS56.lt (show IsS56 w0 _ g s0_0 s0_1 s0_2 s0_3 s0_4 from by repeat (first | (with_reducible first | exact HI0.out | apply IsS56.alloc | apply IsS56.drewN | apply IsS56.drew | apply IsS56.set_1 | apply IsS56.set_2 | apply IsS56.set_3 | apply IsS56.set_4 | refine IsS56.far ?_ NB0_157.out _) | exact HI0.out))) : g ≠ gb158)); have n10_ := Aside0.mk ((by rw [hg]; exact Nat.ne_of_gt (IsS56.lt (show IsS56 w0 _ g s0_0 s0_1 s0_2 s0_3 s0_4 from by repeat (first | (with_reducible first | exact HI0.out | apply IsS56.alloc | apply IsS56.drewN | apply IsS56.drew | apply IsS56.set_1 | apply IsS56.set_2 | apply IsS56.set_3 | apply IsS56.set_4 | refine IsS56.far ?_ NB0_157.out _) | exact HI0.out))) : gb158 ≠ g)); clear HI0; clear BK157; clear HK; clear HB; have HI0 := n0_; have BK157 := n1_; have HK := n2_; have HB := n3_; have BK158 := n4_; have GW158 := n5_; have GE158 := n6_; have NB157_158 := n7_; have NB158_157 := n8_; have NB0_158 := n9_; have NB158_0 := n10_; clear n0_ n1_ n2_ n3_ n4_ n5_ n6_ n7_ n8_ n9_ n10_; clear hb hbox hg; have hnb18 := NB158_157.out; have hnc18 := NB157_158.out; have hnb19 := NB158_0.out; have hnc19 := NB0_158.out; have hcz20_0 : w17.cell? ⟨gb158, 0, none⟩ = some (.int .i64 0) := (blk_cell BK158.out 0).trans rfl; have hcz20_1 : w17.cell? ⟨gb158, 1, none⟩ = some (.int .i64 0) := (blk_cell BK158.out 1).trans rfl; have hcz20_2 : w17.cell? ⟨gb158, 2, none⟩ = some (.int .i64 0) := (blk_cell BK158.out 2).trans rfl; have hcz20_3 : w17.cell? ⟨gb158, 3, none⟩ = some (.int .i64 0) := (blk_cell BK158.out 3).trans rfl; have hcz20_4 : w17.cell? ⟨gb158, 4, none⟩ = some (.int .i64 0) := (blk_cell BK158.out 4).trans rfl; have hcz20_5 : w17.cell? ⟨gb158, 5, none⟩ = some (.bool false) := (blk_cell BK158.out 5).trans rfl; have hcz20_6 : w17.cell? ⟨gb158, 6, none⟩ = some (.bool false) := (blk_cell BK158.out 6).trans rfl; have hfz20_0 := blk_frozen BK158.out 0; have hfz20_1 := blk_frozen BK158.out 1; have hfz20_2 := blk_frozen BK158.out 2; have hfz20_3 := blk_frozen BK158.out 3; have hfz20_4 := blk_frozen BK158.out 4; have hfz20_5 := blk_frozen BK158.out 5; have hfz20_6 := blk_frozen BK158.out 6; have p159 : 0 ≤ (0 : Int) := (by omega); have q159 : 0 < (l1.length : Int) := of_decide_eq_true (by first | (with_reducible assumption) | assumption); obtain ⟨ad159, e159, hx159_0⟩ := Kd.at_string HR1.out 0 p159 q159; cases e159; have qi159 : (0 < l1.length) = True := eq_true (by omega); (try rw [show ((0 : Int)).toNat = 0 from rfl] at hx159_0); (try rw [Addr.add_zero'] at hx159_0); have hn159_0 : ad159.block ≠ gb158 := Nat.ne_of_lt (Nat.lt_of_lt_of_le (by have := World.block_lt_of_cell? _ _ hx159_0; first | rwa [add_block] at this | exact this) GW158.out); have hn159_1 : ad159.block ≠ gb158 := Nat.ne_of_lt (Nat.lt_of_lt_of_le (by have := World.block_lt_of_cell? _ _ hx159_0; first | rwa [add_block] at this | exact this) GW158.out); have hn159_2 : ad159.block ≠ gb158 := Nat.ne_of_lt (Nat.lt_of_lt_of_le (by have := World.block_lt_of_cell? _ _ hx159_0; first | rwa [add_block] at this | exact this) GW158.out); have hn159_3 : ad159.block ≠ gb158 := Nat.ne_of_lt (Nat.lt_of_lt_of_le (by have := World.block_lt_of_cell? _ _ hx159_0; first | rwa [add_block] at this | exact this) GW158.out); have hn159_4 : ad159.block ≠ gb158 := Nat.ne_of_lt (Nat.lt_of_lt_of_le (by have := World.block_lt_of_cell? _ _ hx159_0; first | rwa [add_block] at this | exact this) GW158.out); have hn159_5 : ad159.block ≠ gb158 := Nat.ne_of_lt (Nat.lt_of_lt_of_le (by have := World.block_lt_of_cell? _ _ hx159_0; first | rwa [add_block] at this | exact this) GW158.out); have hn159_6 : ad159.block ≠ gb158 := Nat.ne_of_lt (Nat.lt_of_lt_of_le (by have := World.block_lt_of_cell? _ _ hx159_0; first | rwa [add_block] at this | exact this) GW158.out); replace hx159_0 := keep_cell HK.out hx159_0 (by first | (rw [add_block]; exact hf1 _ rfl (by omega)) | exact hf1 _ rfl (by omega) | exact hf1 ad159 rfl (by omega)); replace hx159_0 := (cell_far (p := ⟨gb158, 0, none⟩) (by first | (rw [add_block]; exact hn159_0) | (show (Addr.add _ _).block ≠ _; rw [add_block]; exact hn159_0) | exact hn159_0) (.int .i64 0)).trans hx159_0; replace hx159_0 := (cell_far (p := ⟨gb158, 1, none⟩) (by first | (rw [add_block]; exact hn159_1) | (show (Addr.add _ _).block ≠ _; rw [add_block]; exact hn159_1) | exact hn159_1) (.int .i64 0)).trans hx159_0; replace hx159_0 := (cell_far (p := ⟨gb158, 2, none⟩) (by first | (rw [add_block]; exact hn159_2) | (show (Addr.add _ _).block ≠ _; rw [add_block]; exact hn159_2) | exact hn159_2) (.int .i64 0)).trans hx159_0; replace hx159_0 := (cell_far (p := ⟨gb158, 3, none⟩) (by first | (rw [add_block]; exact hn159_3) | (show (Addr.add _ _).block ≠ _; rw [add_block]; exact hn159_3) | exact hn159_3) (.int .i64 0)).trans hx159_0; replace hx159_0 := (cell_far (p := ⟨gb158, 4, none⟩) (by first | (rw [add_block]; exact hn159_4) | (show (Addr.add _ _).block ≠ _; rw [add_block]; exact hn159_4) | exact hn159_4) (.int .i64 0)).trans hx159_0; replace hx159_0 := (cell_far (p := ⟨gb158, 5, none⟩) (by first | (rw [add_block]; exact hn159_5) | (show (Addr.add _ _).block ≠ _; rw [add_block]; exact hn159_5) | exact hn159_5) (.bool false)).trans hx159_0; replace hx159_0 := (cell_far (p := ⟨gb158, 6, none⟩) (by first | (rw [add_block]; exact hn159_6) | (show (Addr.add _ _).block ≠ _; rw [add_block]; exact hn159_6) | exact hn159_6) (.bool false)).trans hx159_0; clear hn159_0; clear hn159_1; clear hn159_2; clear hn159_3; clear hn159_4; clear hn159_5; clear hn159_6; replace p159 := eq_true p159; replace q159 := eq_true q159) | ((with_reducible refine gate_callee (f := 78) rfl ?_); refine goesL_ (some 13) rfl rfl Tryd.func78 (by kernel_rfl) rfl #[.pointer (some ⟨g, 0, none⟩), .string (rdOf ByteArray.empty l1 0), .int .i64 1, .int .i64 16777216] rfl (by (try simp only [List.map_toArray, List.map_cons, List.map_nil]); first | done | rfl | (simp only [List.length_drop, List.length_take]; rfl)) ?_; (with_reducible refine (chicaneref36_B_Int.calls k g s0_0 s0_1 s0_2 s0_3 s0_4 (rdOf ByteArray.empty l1 0) 1 16777216 t160 t161 t162 t163 t164 w0 _ ?side1 ?side2 A4.out).mono ?_); (case side1 => repeat (first | (with_reducible first | exact HI0.out | apply IsS56.alloc | apply IsS56.drewN | apply IsS56.drew | apply IsS56.set_1 | apply IsS56.set_2 | apply IsS56.set_3 | apply IsS56.set_4 | refine IsS56.far ?_ NB0_157.out _ | refine IsS56.far ?_ NB0_158.out _) | exact HI0.out)); (case side2 => repeat (first | (with_reducible first | exact HB.out | apply below_alloc | apply pw_below_drewN | apply below_drew1 | refine below_set ?_ (IsS56.ge HI0.out) | refine below_set ?_ GE157.out | refine below_set ?_ GE158.out) | exact HB.out)); rintro e w21 ⟨rfl, hi, hb, hk⟩; refine ⟨_, rfl, ?_⟩; have n0_ := Aside0.mk (KeepBut.blk hk (g' := gb157) (o := .cells #[.int .i64 0, .int .i64 0, .int .i64 0, .int .i64 0, .int .i64 0, .bool false, .bool false] 35 (0, 0)) (by (with_reducible repeat (first | refine blk_drewN ?_ _ | refine blk_drew ?_ | refine blk_alloc ?_ _)); refine blk_far ?_ NB157_158.out _; (with_reducible repeat (first | refine blk_drewN ?_ _ | refine blk_drew ?_ | refine blk_alloc ?_ _)); refine blk_far ?_ NB157_158.out _; (with_reducible repeat (first | refine blk_drewN ?_ _ | refine blk_drew ?_ | refine blk_alloc ?_ _)); refine blk_far ?_ NB157_158.out _; (with_reducible repeat (first | refine blk_drewN ?_ _ | refine blk_drew ?_ | refine blk_alloc ?_ _)); refine blk_far ?_ NB157_158.out _; (with_reducible repeat (first | refine blk_drewN ?_ _ | refine blk_drew ?_ | refine blk_alloc ?_ _)); refine blk_far ?_ NB157_158.out _; (with_reducible repeat (first | refine blk_drewN ?_ _ | refine blk_drew ?_ | refine blk_alloc ?_ _)); refine blk_far ?_ NB157_158.out _; (with_reducible repeat (first | refine blk_drewN ?_ _ | refine blk_drew ?_ | refine blk_alloc ?_ _)); refine blk_far ?_ NB157_158.out _; (with_reducible repeat (first | refine blk_drewN ?_ _ | refine blk_drew ?_ | refine blk_alloc ?_ _)); exact BK157.out) NB157_0.out (by simp)); have n1_ := Aside0.mk (KeepBut.blk hk (g' := gb158) (o := .cells #[.int .i64 0, .int .i64 0, .int .i64 0, .int .i64 0, .int .i64 0, .bool false, .bool false] 35 (0, 0)) (by (with_reducible repeat (first | refine blk_drewN ?_ _ | refine blk_drew ?_ | refine blk_alloc ?_ _)); refine blk_put (cs := #[.int .i64 0, .int .i64 0, .int .i64 0, .int .i64 0, .int .i64 0, .bool false, .bool false]) ?_ 6 _ rfl; (with_reducible repeat (first | refine blk_drewN ?_ _ | refine blk_drew ?_ | refine blk_alloc ?_ _)); refine blk_put (cs := #[.int .i64 0, .int .i64 0, .int .i64 0, .int .i64 0, .int .i64 0, .bool false, .bool false]) ?_ 5 _ rfl; (with_reducible repeat (first | refine blk_drewN ?_ _ | refine blk_drew ?_ | refine blk_alloc ?_ _)); refine blk_put (cs := #[.int .i64 0, .int .i64 0, .int .i64 0, .int .i64 0, .int .i64 0, .bool false, .bool false]) ?_ 4 _ rfl; (with_reducible repeat (first | refine blk_drewN ?_ _ | refine blk_drew ?_ | refine blk_alloc ?_ _)); refine blk_put (cs := #[.int .i64 0, .int .i64 0, .int .i64 0, .int .i64 0, .int .i64 0, .bool false, .bool false]) ?_ 3 _ rfl; (with_reducible repeat (first | refine blk_drewN ?_ _ | refine blk_drew ?_ | refine blk_alloc ?_ _)); refine blk_put (cs := #[.int .i64 0, .int .i64 0, .int .i64 0, .int .i64 0, .int .i64 0, .bool false, .bool false]) ?_ 2 _ rfl; (with_reducible repeat (first | refine blk_drewN ?_ _ | refine blk_drew ?_ | refine blk_alloc ?_ _)); refine blk_put (cs := #[.int .i64 0, .int .i64 0, .int .i64 0, .int .i64 0, .int .i64 0, .bool false, .bool false]) ?_ 1 _ rfl; (with_reducible repeat (first | refine blk_drewN ?_ _ | refine blk_drew ?_ | refine blk_alloc ?_ _)); refine blk_put (cs := #[.int .i64 0, .int .i64 0, .int .i64 0, .int .i64 0, .int .i64 0, .bool false, .bool false]) ?_ 0 _ rfl; (with_reducible repeat (first | refine blk_drewN ?_ _ | refine blk_drew ?_ | refine blk_alloc ?_ _)); exact BK158.out) NB158_0.out (by simp)); have n2_ := Aside0.mk (KeepBut.trans (by repeat (first | (with_reducible first | exact HK.out | apply KeepBut.set_ | apply keep_drewN | apply keep_drew | apply keep_alloc | refine keep_far ?_ GW157.out _ | refine keep_far ?_ GW158.out _) | exact HK.out)) hk (.inl rfl)); have n3_ := Aside0.mk (hb); have n4_ := Aside0.mk (hi); clear BK157; clear BK158; clear HK; clear HB; clear HI0; have BK157 := n0_; have BK158 := n1_; have HK := n2_; have HB := n3_; have HI0 := n4_; clear n0_ n1_ n2_ n3_ n4_; (try clear hb); (try clear hb2); (try clear hk); (try clear hi); have p165 : 0 ≤ (1 : Int) := (by omega); have q165 : 1 < (l1.length : Int) := of_decide_eq_true (by first | (with_reducible assumption) | assumption); obtain ⟨ad165, e165, hx165_0⟩ := Kd.at_string HR1.out 1 p165 q165; obtain rfl : ad159 = ad165 := (by injection e165); (try simp only [show (1 : Int).toNat = 1 from rfl, Nat.reduceMul, Nat.reduceEqDiff, Go.Addr.add, ↓reduceIte] at hx165_0); have qi165 : (1 < l1.length) = True := eq_true (by omega); (try rw [show ((1 : Int)).toNat = 1 from rfl] at hx165_0); replace hx165_0 := keep_cell HK.out hx165_0 (by first | (rw [add_block]; exact hf1 _ rfl (by omega)) | exact hf1 _ rfl (by omega) | exact hf1 ad159 rfl (by omega)); replace p165 := eq_true p165; replace q165 := eq_true q165) | ((with_reducible refine gate_callee (f := 78) rfl ?_); refine goesL_ (some 18) rfl rfl Tryd.func78 (by kernel_rfl) rfl #[.pointer (some ⟨g, 0, none⟩), .string (rdOf ByteArray.empty l1 1), .int .i64 0, .int .i64 255] rfl (by (try simp only [List.map_toArray, List.map_cons, List.map_nil]); first | done | rfl | (simp only [List.length_drop, List.length_take]; rfl)) ?_; (with_reducible refine (chicaneref36_B_Int.calls k g s0_0 t161 t162 t163 t164 (rdOf ByteArray.empty l1 1) 0 255 t166 t167 t168 t169 t170 w0 _ ?side1 ?side2 A6.out).mono ?_); (case side1 => repeat (first | (with_reducible first | exact HI0.out | apply IsS56.alloc | apply IsS56.drewN | apply IsS56.drew | apply IsS56.set_1 | apply IsS56.set_2 | apply IsS56.set_3 | apply IsS56.set_4 | refine IsS56.far ?_ NB0_157.out _ | refine IsS56.far ?_ NB0_158.out _) | exact HI0.out)); (case side2 => repeat (first | (with_reducible first | exact HB.out | apply below_alloc | apply pw_below_drewN | apply below_drew1 | refine below_set ?_ (IsS56.ge HI0.out) | refine below_set ?_ GE157.out | refine below_set ?_ GE158.out) | exact HB.out)); rintro e w22 ⟨rfl, hi, hb, hk⟩; refine ⟨_, rfl, ?_⟩; have n0_ := Aside0.mk (KeepBut.blk hk (g' := gb157) (o := .cells #[.int .i64 0, .int .i64 0, .int .i64 0, .int .i64 0, .int .i64 0, .bool false, .bool false] 35 (0, 0)) (by (with_reducible repeat (first | refine blk_drewN ?_ _ | refine blk_drew ?_ | refine blk_alloc ?_ _)); exact BK157.out) NB157_0.out (by simp)); have n1_ := Aside0.mk (KeepBut.blk hk (g' := gb158) (o := .cells #[.int .i64 0, .int .i64 0, .int .i64 0, .int .i64 0, .int .i64 0, .bool false, .bool false] 35 (0, 0)) (by (with_reducible repeat (first | refine blk_drewN ?_ _ | refine blk_drew ?_ | refine blk_alloc ?_ _)); exact BK158.out) NB158_0.out (by simp)); have n2_ := Aside0.mk (KeepBut.trans (by repeat (first | (with_reducible first | exact HK.out | apply KeepBut.set_ | apply keep_drewN | apply keep_drew | apply keep_alloc | refine keep_far ?_ GW157.out _ | refine keep_far ?_ GW158.out _) | exact HK.out)) hk (.inl rfl)); have n3_ := Aside0.mk (hb); have n4_ := Aside0.mk (hi); clear BK157; clear BK158; clear HK; clear HB; clear HI0; have BK157 := n0_; have BK158 := n1_; have HK := n2_; have HB := n3_; have HI0 := n4_; clear n0_ n1_ n2_ n3_ n4_; (try clear hb); (try clear hb2); (try clear hk); (try clear hi); have hcz23_0 : w22.cell? ⟨gb158, 0, none⟩ = some (.int .i64 0) := (blk_cell BK158.out 0).trans rfl; have hcz23_1 : w22.cell? ⟨gb158, 1, none⟩ = some (.int .i64 0) := (blk_cell BK158.out 1).trans rfl; have hcz23_2 : w22.cell? ⟨gb158, 2, none⟩ = some (.int .i64 0) := (blk_cell BK158.out 2).trans rfl; have hcz23_3 : w22.cell? ⟨gb158, 3, none⟩ = some (.int .i64 0) := (blk_cell BK158.out 3).trans rfl; have hcz23_4 : w22.cell? ⟨gb158, 4, none⟩ = some (.int .i64 0) := (blk_cell BK158.out 4).trans rfl; have hcz23_5 : w22.cell? ⟨gb158, 5, none⟩ = some (.bool false) := (blk_cell BK158.out 5).trans rfl; have hcz23_6 : w22.cell? ⟨gb158, 6, none⟩ = some (.bool false) := (blk_cell BK158.out 6).trans rfl; have hfz23_0 := blk_frozen BK158.out 0; have hfz23_1 := blk_frozen BK158.out 1; have hfz23_2 := blk_frozen BK158.out 2; have hfz23_3 := blk_frozen BK158.out 3; have hfz23_4 := blk_frozen BK158.out 4; have hfz23_5 := blk_frozen BK158.out 5; have hfz23_6 := blk_frozen BK158.out 6; have p171 : 0 ≤ (2 : Int) := (by omega); have q171 : 2 < (l1.length : Int) := of_decide_eq_true (by first | (with_reducible assumption) | assumption); obtain ⟨ad171, e171, hx171_0⟩ := Kd.at_string HR1.out 2 p171 q171; obtain rfl : ad159 = ad171 := (by injection e171); (try simp only [show (2 : Int).toNat = 2 from rfl, Nat.reduceMul, Nat.reduceEqDiff, Go.Addr.add, ↓reduceIte] at hx171_0); have qi171 : (2 < l1.length) = True := eq_true (by omega); (try rw [show ((2 : Int)).toNat = 2 from rfl] at hx171_0); have hn171_0 : ad159.block ≠ gb158 := Nat.ne_of_lt (Nat.lt_of_lt_of_le (by have := World.block_lt_of_cell? _ _ hx171_0; first | rwa [add_block] at this | exact this) GW158.out); replace hx171_0 := keep_cell HK.out hx171_0 (by first | (rw [add_block]; exact hf1 _ rfl (by omega)) | exact hf1 _ rfl (by omega) | exact hf1 ad159 rfl (by omega)); replace hx171_0 := (cell_far (p := ⟨gb158, 0, none⟩) (by first | (rw [add_block]; exact hn171_0) | (show (Addr.add _ _).block ≠ _; rw [add_block]; exact hn171_0) | exact hn171_0) (.int .i64 t166)).trans hx171_0; clear hn171_0; replace p171 := eq_true p171; replace q171 := eq_true q171) | ((with_reducible refine gate_callee (f := 78) rfl ?_); refine goesL_ (some 24) rfl rfl Tryd.func78 (by kernel_rfl) rfl #[.pointer (some ⟨g, 0, none⟩), .string (rdOf ByteArray.empty l1 2), .int .i64 0, .int .i64 255] rfl (by (try simp only [List.map_toArray, List.map_cons, List.map_nil]); first | done | rfl | (simp only [List.length_drop, List.length_take]; rfl)) ?_; (with_reducible refine (chicaneref36_B_Int.calls k g s0_0 t167 t168 t169 t170 (rdOf ByteArray.empty l1 2) 0 255 t172 t173 t174 t175 t176 w0 _ ?side1 ?side2 A8.out).mono ?_); (case side1 => repeat (first | (with_reducible first | exact HI0.out | apply IsS56.alloc | apply IsS56.drewN | apply IsS56.drew | apply IsS56.set_1 | apply IsS56.set_2 | apply IsS56.set_3 | apply IsS56.set_4 | refine IsS56.far ?_ NB0_157.out _ | refine IsS56.far ?_ NB0_158.out _) | exact HI0.out)); (case side2 => repeat (first | (with_reducible first | exact HB.out | apply below_alloc | apply pw_below_drewN | apply below_drew1 | refine below_set ?_ (IsS56.ge HI0.out) | refine below_set ?_ GE157.out | refine below_set ?_ GE158.out) | exact HB.out)); rintro e w24 ⟨rfl, hi, hb, hk⟩; refine ⟨_, rfl, ?_⟩; have n0_ := Aside0.mk (KeepBut.blk hk (g' := gb157) (o := .cells #[.int .i64 0, .int .i64 0, .int .i64 0, .int .i64 0, .int .i64 0, .bool false, .bool false] 35 (0, 0)) (by (with_reducible repeat (first | refine blk_drewN ?_ _ | refine blk_drew ?_ | refine blk_alloc ?_ _)); refine blk_far ?_ NB157_158.out _; (with_reducible repeat (first | refine blk_drewN ?_ _ | refine blk_drew ?_ | refine blk_alloc ?_ _)); exact BK157.out) NB157_0.out (by simp)); have n1_ := Aside0.mk (KeepBut.blk hk (g' := gb158) (o := .cells #[.int .i64 t166, .int .i64 0, .int .i64 0, .int .i64 0, .int .i64 0, .bool false, .bool false] 35 (0, 0)) (by (with_reducible repeat (first | refine blk_drewN ?_ _ | refine blk_drew ?_ | refine blk_alloc ?_ _)); refine blk_put (cs := #[.int .i64 0, .int .i64 0, .int .i64 0, .int .i64 0, .int .i64 0, .bool false, .bool false]) ?_ 0 _ rfl; (with_reducible repeat (first | refine blk_drewN ?_ _ | refine blk_drew ?_ | refine blk_alloc ?_ _)); exact BK158.out) NB158_0.out (by simp)); have n2_ := Aside0.mk (KeepBut.trans (by repeat (first | (with_reducible first | exact HK.out | apply KeepBut.set_ | apply keep_drewN | apply keep_drew | apply keep_alloc | refine keep_far ?_ GW157.out _ | refine keep_far ?_ GW158.out _) | exact HK.out)) hk (.inl rfl)); have n3_ := Aside0.mk (hb); have n4_ := Aside0.mk (hi); clear BK157; clear BK158; clear HK; clear HB; clear HI0; have BK157 := n0_; have BK158 := n1_; have HK := n2_; have HB := n3_; have HI0 := n4_; clear n0_ n1_ n2_ n3_ n4_; (try clear hb); (try clear hb2); (try clear hk); (try clear hi); have hcz25_0 : w24.cell? ⟨gb158, 0, none⟩ = some (.int .i64 t166) := (blk_cell BK158.out 0).trans rfl; have hcz25_1 : w24.cell? ⟨gb158, 1, none⟩ = some (.int .i64 0) := (blk_cell BK158.out 1).trans rfl; have hcz25_2 : w24.cell? ⟨gb158, 2, none⟩ = some (.int .i64 0) := (blk_cell BK158.out 2).trans rfl; have hcz25_3 : w24.cell? ⟨gb158, 3, none⟩ = some (.int .i64 0) := (blk_cell BK158.out 3).trans rfl; have hcz25_4 : w24.cell? ⟨gb158, 4, none⟩ = some (.int .i64 0) := (blk_cell BK158.out 4).trans rfl; have hcz25_5 : w24.cell? ⟨gb158, 5, none⟩ = some (.bool false) := (blk_cell BK158.out 5).trans rfl; have hcz25_6 : w24.cell? ⟨gb158, 6, none⟩ = some (.bool false) := (blk_cell BK158.out 6).trans rfl; have hfz25_0 := blk_frozen BK158.out 0; have hfz25_1 := blk_frozen BK158.out 1; have hfz25_2 := blk_frozen BK158.out 2; have hfz25_3 := blk_frozen BK158.out 3; have hfz25_4 := blk_frozen BK158.out 4; have hfz25_5 := blk_frozen BK158.out 5; have hfz25_6 := blk_frozen BK158.out 6; have p177 : 0 ≤ (3 : Int) := (by omega); have q177 : 3 < (l1.length : Int) := of_decide_eq_true (by first | (with_reducible assumption) | assumption); obtain ⟨ad177, e177, hx177_0⟩ := Kd.at_string HR1.out 3 p177 q177; obtain rfl : ad159 = ad177 := (by injection e177); (try simp only [show (3 : Int).toNat = 3 from rfl, Nat.reduceMul, Nat.reduceEqDiff, Go.Addr.add, ↓reduceIte] at hx177_0); have qi177 : (3 < l1.length) = True := eq_true (by omega); (try rw [show ((3 : Int)).toNat = 3 from rfl] at hx177_0); have hn177_0 : ad159.block ≠ gb158 := Nat.ne_of_lt (Nat.lt_of_lt_of_le (by have := World.block_lt_of_cell? _ _ hx177_0; first | rwa [add_block] at this | exact this) GW158.out); replace hx177_0 := keep_cell HK.out hx177_0 (by first | (rw [add_block]; exact hf1 _ rfl (by omega)) | exact hf1 _ rfl (by omega) | exact hf1 ad159 rfl (by omega)); replace hx177_0 := (cell_far (p := ⟨gb158, 1, none⟩) (by first | (rw [add_block]; exact hn177_0) | (show (Addr.add _ _).block ≠ _; rw [add_block]; exact hn177_0) | exact hn177_0) (.int .i64 t172)).trans hx177_0; clear hn177_0; replace p177 := eq_true p177; replace q177 := eq_true q177) | ((with_reducible refine gate_callee (f := 78) rfl ?_); refine goesL_ (some 30) rfl rfl Tryd.func78 (by kernel_rfl) rfl #[.pointer (some ⟨g, 0, none⟩), .string (rdOf ByteArray.empty l1 3), .int .i64 0, .int .i64 255] rfl (by (try simp only [List.map_toArray, List.map_cons, List.map_nil]); first | done | rfl | (simp only [List.length_drop, List.length_take]; rfl)) ?_; (with_reducible refine (chicaneref36_B_Int.calls k g s0_0 t173 t174 t175 t176 (rdOf ByteArray.empty l1 3) 0 255 t178 t179 t180 t181 t182 w0 _ ?side1 ?side2 A10.out).mono ?_); (case side1 => repeat (first | (with_reducible first | exact HI0.out | apply IsS56.alloc | apply IsS56.drewN | apply IsS56.drew | apply IsS56.set_1 | apply IsS56.set_2 | apply IsS56.set_3 | apply IsS56.set_4 | refine IsS56.far ?_ NB0_157.out _ | refine IsS56.far ?_ NB0_158.out _) | exact HI0.out)); (case side2 => repeat (first | (with_reducible first | exact HB.out | apply below_alloc | apply pw_below_drewN | apply below_drew1 | refine below_set ?_ (IsS56.ge HI0.out) | refine below_set ?_ GE157.out | refine below_set ?_ GE158.out) | exact HB.out)); rintro e w26 ⟨rfl, hi, hb, hk⟩; refine ⟨_, rfl, ?_⟩; have n0_ := Aside0.mk (KeepBut.blk hk (g' := gb157) (o := .cells #[.int .i64 0, .int .i64 0, .int .i64 0, .int .i64 0, .int .i64 0, .bool false, .bool false] 35 (0, 0)) (by (with_reducible repeat (first | refine blk_drewN ?_ _ | refine blk_drew ?_ | refine blk_alloc ?_ _)); refine blk_far ?_ NB157_158.out _; (with_reducible repeat (first | refine blk_drewN ?_ _ | refine blk_drew ?_ | refine blk_alloc ?_ _)); exact BK157.out) NB157_0.out (by simp)); have n1_ := Aside0.mk (KeepBut.blk hk (g' := gb158) (o := .cells #[.int .i64 t166, .int .i64 t172, .int .i64 0, .int .i64 0, .int .i64 0, .bool false, .bool false] 35 (0, 0)) (by (with_reducible repeat (first | refine blk_drewN ?_ _ | refine blk_drew ?_ | refine blk_alloc ?_ _)); refine blk_put (cs := #[.int .i64 t166, .int .i64 0, .int .i64 0, .int .i64 0, .int .i64 0, .bool false, .bool false]) ?_ 1 _ rfl; (with_reducible repeat (first | refine blk_drewN ?_ _ | refine blk_drew ?_ | refine blk_alloc ?_ _)); exact BK158.out) NB158_0.out (by simp)); have n2_ := Aside0.mk (KeepBut.trans (by repeat (first | (with_reducible first | exact HK.out | apply KeepBut.set_ | apply keep_drewN | apply keep_drew | apply keep_alloc | refine keep_far ?_ GW157.out _ | refine keep_far ?_ GW158.out _) | exact HK.out)) hk (.inl rfl)); have n3_ := Aside0.mk (hb); have n4_ := Aside0.mk (hi); clear BK157; clear BK158; clear HK; clear HB; clear HI0; have BK157 := n0_; have BK158 := n1_; have HK := n2_; have HB := n3_; have HI0 := n4_; clear n0_ n1_ n2_ n3_ n4_; (try clear hb); (try clear hb2); (try clear hk); (try clear hi); have hcz27_0 : w26.cell? ⟨gb158, 0, none⟩ = some (.int .i64 t166) := (blk_cell BK158.out 0).trans rfl; have hcz27_1 : w26.cell? ⟨gb158, 1, none⟩ = some (.int .i64 t172) := (blk_cell BK158.out 1).trans rfl; have hcz27_2 : w26.cell? ⟨gb158, 2, none⟩ = some (.int .i64 0) := (blk_cell BK158.out 2).trans rfl; have hcz27_3 : w26.cell? ⟨gb158, 3, none⟩ = some (.int .i64 0) := (blk_cell BK158.out 3).trans rfl; have hcz27_4 : w26.cell? ⟨gb158, 4, none⟩ = some (.int .i64 0) := (blk_cell BK158.out 4).trans rfl; have hcz27_5 : w26.cell? ⟨gb158, 5, none⟩ = some (.bool false) := (blk_cell BK158.out 5).trans rfl; have hcz27_6 : w26.cell? ⟨gb158, 6, none⟩ = some (.bool false) := (blk_cell BK158.out 6).trans rfl; have hfz27_0 := blk_frozen BK158.out 0; have hfz27_1 := blk_frozen BK158.out 1; have hfz27_2 := blk_frozen BK158.out 2; have hfz27_3 := blk_frozen BK158.out 3; have hfz27_4 := blk_frozen BK158.out 4; have hfz27_5 := blk_frozen BK158.out 5; have hfz27_6 := blk_frozen BK158.out 6; have p183 : 0 ≤ (4 : Int) := (by omega); have q183 : 4 < (l1.length : Int) := of_decide_eq_true (by first | (with_reducible assumption) | assumption); obtain ⟨ad183, e183, hx183_0⟩ := Kd.at_string HR1.out 4 p183 q183; obtain rfl : ad159 = ad183 := (by injection e183); (try simp only [show (4 : Int).toNat = 4 from rfl, Nat.reduceMul, Nat.reduceEqDiff, Go.Addr.add, ↓reduceIte] at hx183_0); have qi183 : (4 < l1.length) = True := eq_true (by omega); (try rw [show ((4 : Int)).toNat = 4 from rfl] at hx183_0); have hn183_0 : ad159.block ≠ gb158 := Nat.ne_of_lt (Nat.lt_of_lt_of_le (by have := World.block_lt_of_cell? _ _ hx183_0; first | rwa [add_block] at this | exact this) GW158.out); replace hx183_0 := keep_cell HK.out hx183_0 (by first | (rw [add_block]; exact hf1 _ rfl (by omega)) | exact hf1 _ rfl (by omega) | exact hf1 ad159 rfl (by omega)); replace hx183_0 := (cell_far (p := ⟨gb158, 2, none⟩) (by first | (rw [add_block]; exact hn183_0) | (show (Addr.add _ _).block ≠ _; rw [add_block]; exact hn183_0) | exact hn183_0) (.int .i64 t178)).trans hx183_0; clear hn183_0; replace p183 := eq_true p183; replace q183 := eq_true q183) | ((with_reducible refine gate_callee (f := 78) rfl ?_); refine goesL_ (some 36) rfl rfl Tryd.func78 (by kernel_rfl) rfl #[.pointer (some ⟨g, 0, none⟩), .string (rdOf ByteArray.empty l1 4), .int .i64 (-127), .int .i64 127] rfl (by (try simp only [List.map_toArray, List.map_cons, List.map_nil]); first | done | rfl | (simp only [List.length_drop, List.length_take]; rfl)) ?_; (with_reducible refine (chicaneref36_B_Int.calls k g s0_0 t179 t180 t181 t182 (rdOf ByteArray.empty l1 4) (-127) 127 t184 t185 t186 t187 t188 w0 _ ?side1 ?side2 A12.out).mono ?_); (case side1 => repeat (first | (with_reducible first | exact HI0.out | apply IsS56.alloc | apply IsS56.drewN | apply IsS56.drew | apply IsS56.set_1 | apply IsS56.set_2 | apply IsS56.set_3 | apply IsS56.set_4 | refine IsS56.far ?_ NB0_157.out _ | refine IsS56.far ?_ NB0_158.out _) | exact HI0.out)); (case side2 => repeat (first | (with_reducible first | exact HB.out | apply below_alloc | apply pw_below_drewN | apply below_drew1 | refine below_set ?_ (IsS56.ge HI0.out) | refine below_set ?_ GE157.out | refine below_set ?_ GE158.out) | exact HB.out)); rintro e w28 ⟨rfl, hi, hb, hk⟩; refine ⟨_, rfl, ?_⟩; have n0_ := Aside0.mk (KeepBut.blk hk (g' := gb157) (o := .cells #[.int .i64 0, .int .i64 0, .int .i64 0, .int .i64 0, .int .i64 0, .bool false, .bool false] 35 (0, 0)) (by (with_reducible repeat (first | refine blk_drewN ?_ _ | refine blk_drew ?_ | refine blk_alloc ?_ _)); refine blk_far ?_ NB157_158.out _; (with_reducible repeat (first | refine blk_drewN ?_ _ | refine blk_drew ?_ | refine blk_alloc ?_ _)); exact BK157.out) NB157_0.out (by simp)); have n1_ := Aside0.mk (KeepBut.blk hk (g' := gb158) (o := .cells #[.int .i64 t166, .int .i64 t172, .int .i64 t178, .int .i64 0, .int .i64 0, .bool false, .bool false] 35 (0, 0)) (by (with_reducible repeat (first | refine blk_drewN ?_ _ | refine blk_drew ?_ | refine blk_alloc ?_ _)); refine blk_put (cs := #[.int .i64 t166, .int .i64 t172, .int .i64 0, .int .i64 0, .int .i64 0, .bool false, .bool false]) ?_ 2 _ rfl; (with_reducible repeat (first | refine blk_drewN ?_ _ | refine blk_drew ?_ | refine blk_alloc ?_ _)); exact BK158.out) NB158_0.out (by simp)); have n2_ := Aside0.mk (KeepBut.trans (by repeat (first | (with_reducible first | exact HK.out | apply KeepBut.set_ | apply keep_drewN | apply keep_drew | apply keep_alloc | refine keep_far ?_ GW157.out _ | refine keep_far ?_ GW158.out _) | exact HK.out)) hk (.inl rfl)); have n3_ := Aside0.mk (hb); have n4_ := Aside0.mk (hi); clear BK157; clear BK158; clear HK; clear HB; clear HI0; have BK157 := n0_; have BK158 := n1_; have HK := n2_; have HB := n3_; have HI0 := n4_; clear n0_ n1_ n2_ n3_ n4_; (try clear hb); (try clear hb2); (try clear hk); (try clear hi); have hcz29_0 : w28.cell? ⟨gb158, 0, none⟩ = some (.int .i64 t166) := (blk_cell BK158.out 0).trans rfl; have hcz29_1 : w28.cell? ⟨gb158, 1, none⟩ = some (.int .i64 t172) := (blk_cell BK158.out 1).trans rfl; have hcz29_2 : w28.cell? ⟨gb158, 2, none⟩ = some (.int .i64 t178) := (blk_cell BK158.out 2).trans rfl; have hcz29_3 : w28.cell? ⟨gb158, 3, none⟩ = some (.int .i64 0) := (blk_cell BK158.out 3).trans rfl; have hcz29_4 : w28.cell? ⟨gb158, 4, none⟩ = some (.int .i64 0) := (blk_cell BK158.out 4).trans rfl; have hcz29_5 : w28.cell? ⟨gb158, 5, none⟩ = some (.bool false) := (blk_cell BK158.out 5).trans rfl; have hcz29_6 : w28.cell? ⟨gb158, 6, none⟩ = some (.bool false) := (blk_cell BK158.out 6).trans rfl; have hfz29_0 := blk_frozen BK158.out 0; have hfz29_1 := blk_frozen BK158.out 1; have hfz29_2 := blk_frozen BK158.out 2; have hfz29_3 := blk_frozen BK158.out 3; have hfz29_4 := blk_frozen BK158.out 4; have hfz29_5 := blk_frozen BK158.out 5; have hfz29_6 := blk_frozen BK158.out 6; have p189 : 0 ≤ (5 : Int) := (by omega); have q189 : 5 < (l1.length : Int) := of_decide_eq_true (by first | (with_reducible assumption) | assumption); obtain ⟨ad189, e189, hx189_0⟩ := Kd.at_string HR1.out 5 p189 q189; obtain rfl : ad159 = ad189 := (by injection e189); (try simp only [show (5 : Int).toNat = 5 from rfl, Nat.reduceMul, Nat.reduceEqDiff, Go.Addr.add, ↓reduceIte] at hx189_0); have qi189 : (5 < l1.length) = True := eq_true (by omega); (try rw [show ((5 : Int)).toNat = 5 from rfl] at hx189_0); have hn189_0 : ad159.block ≠ gb158 := Nat.ne_of_lt (Nat.lt_of_lt_of_le (by have := World.block_lt_of_cell? _ _ hx189_0; first | rwa [add_block] at this | exact this) GW158.out); replace hx189_0 := keep_cell HK.out hx189_0 (by first | (rw [add_block]; exact hf1 _ rfl (by omega)) | exact hf1 _ rfl (by omega) | exact hf1 ad159 rfl (by omega)); replace hx189_0 := (cell_far (p := ⟨gb158, 3, none⟩) (by first | (rw [add_block]; exact hn189_0) | (show (Addr.add _ _).block ≠ _; rw [add_block]; exact hn189_0) | exact hn189_0) (.int .i64 t184)).trans hx189_0; clear hn189_0; replace p189 := eq_true p189; replace q189 := eq_true q189) | ((with_reducible refine gate_callee (f := 78) rfl ?_); refine goesL_ (some 42) rfl rfl Tryd.func78 (by kernel_rfl) rfl #[.pointer (some ⟨g, 0, none⟩), .string (rdOf ByteArray.empty l1 5), .int .i64 (-1), .int .i64 8] rfl (by (try simp only [List.map_toArray, List.map_cons, List.map_nil]); first | done | rfl | (simp only [List.length_drop, List.length_take]; rfl)) ?_; (with_reducible refine (chicaneref36_B_Int.calls k g s0_0 t185 t186 t187 t188 (rdOf ByteArray.empty l1 5) (-1) 8 t190 t191 t192 t193 t194 w0 _ ?side1 ?side2 A14.out).mono ?_); (case side1 => repeat (first | (with_reducible first | exact HI0.out | apply IsS56.alloc | apply IsS56.drewN | apply IsS56.drew | apply IsS56.set_1 | apply IsS56.set_2 | apply IsS56.set_3 | apply IsS56.set_4 | refine IsS56.far ?_ NB0_157.out _ | refine IsS56.far ?_ NB0_158.out _) | exact HI0.out)); (case side2 => repeat (first | (with_reducible first | exact HB.out | apply below_alloc | apply pw_below_drewN | apply below_drew1 | refine below_set ?_ (IsS56.ge HI0.out) | refine below_set ?_ GE157.out | refine below_set ?_ GE158.out) | exact HB.out)); rintro e w30 ⟨rfl, hi, hb, hk⟩; refine ⟨_, rfl, ?_⟩; have n0_ := Aside0.mk (KeepBut.blk hk (g' := gb157) (o := .cells #[.int .i64 0, .int .i64 0, .int .i64 0, .int .i64 0, .int .i64 0, .bool false, .bool false] 35 (0, 0)) (by (with_reducible repeat (first | refine blk_drewN ?_ _ | refine blk_drew ?_ | refine blk_alloc ?_ _)); refine blk_far ?_ NB157_158.out _; (with_reducible repeat (first | refine blk_drewN ?_ _ | refine blk_drew ?_ | refine blk_alloc ?_ _)); exact BK157.out) NB157_0.out (by simp)); have n1_ := Aside0.mk (KeepBut.blk hk (g' := gb158) (o := .cells #[.int .i64 t166, .int .i64 t172, .int .i64 t178, .int .i64 t184, .int .i64 0, .bool false, .bool false] 35 (0, 0)) (by (with_reducible repeat (first | refine blk_drewN ?_ _ | refine blk_drew ?_ | refine blk_alloc ?_ _)); refine blk_put (cs := #[.int .i64 t166, .int .i64 t172, .int .i64 t178, .int .i64 0, .int .i64 0, .bool false, .bool false]) ?_ 3 _ rfl; (with_reducible repeat (first | refine blk_drewN ?_ _ | refine blk_drew ?_ | refine blk_alloc ?_ _)); exact BK158.out) NB158_0.out (by simp)); have n2_ := Aside0.mk (KeepBut.trans (by repeat (first | (with_reducible first | exact HK.out | apply KeepBut.set_ | apply keep_drewN | apply keep_drew | apply keep_alloc | refine keep_far ?_ GW157.out _ | refine keep_far ?_ GW158.out _) | exact HK.out)) hk (.inl rfl)); have n3_ := Aside0.mk (hb); have n4_ := Aside0.mk (hi); clear BK157; clear BK158; clear HK; clear HB; clear HI0; have BK157 := n0_; have BK158 := n1_; have HK := n2_; have HB := n3_; have HI0 := n4_; clear n0_ n1_ n2_ n3_ n4_; (try clear hb); (try clear hb2); (try clear hk); (try clear hi); have hcz31_0 : w30.cell? ⟨gb158, 0, none⟩ = some (.int .i64 t166) := (blk_cell BK158.out 0).trans rfl; have hcz31_1 : w30.cell? ⟨gb158, 1, none⟩ = some (.int .i64 t172) := (blk_cell BK158.out 1).trans rfl; have hcz31_2 : w30.cell? ⟨gb158, 2, none⟩ = some (.int .i64 t178) := (blk_cell BK158.out 2).trans rfl; have hcz31_3 : w30.cell? ⟨gb158, 3, none⟩ = some (.int .i64 t184) := (blk_cell BK158.out 3).trans rfl; have hcz31_4 : w30.cell? ⟨gb158, 4, none⟩ = some (.int .i64 0) := (blk_cell BK158.out 4).trans rfl; have hcz31_5 : w30.cell? ⟨gb158, 5, none⟩ = some (.bool false) := (blk_cell BK158.out 5).trans rfl; have hcz31_6 : w30.cell? ⟨gb158, 6, none⟩ = some (.bool false) := (blk_cell BK158.out 6).trans rfl; have hfz31_0 := blk_frozen BK158.out 0; have hfz31_1 := blk_frozen BK158.out 1; have hfz31_2 := blk_frozen BK158.out 2; have hfz31_3 := blk_frozen BK158.out 3; have hfz31_4 := blk_frozen BK158.out 4; have hfz31_5 := blk_frozen BK158.out 5; have hfz31_6 := blk_frozen BK158.out 6))
              (try simp only [Act.put, List.setIfInBounds_toArray, List.set_cons_zero, List.set_cons_succ])
              go_cut [] (fun wc => ∃ (kq : Nat) (x1001_14 : Int) (x1002_14 : Int) (x1003_14 : Int) (x1004_14 : Int) (x159005_14 : Bool) (x159006_14 : Bool), Aside0 (chicaneref39_one.j0 kq l1 t160 s0_0 x1001_14 x1002_14 x1003_14 x1004_14 t166 t172 t178 t184 t190 x159005_14 x159006_14 = some (r1, r2, r3, r4, r5, r6, r7, r8, r9, r10, r11, r12)) ∧ Aside0 (kq ≤ k) ∧ Aside0 (wc.heap[gb157]? = some (.cells #[.int .i64 0, .int .i64 0, .int .i64 0, .int .i64 0, .int .i64 0, .bool false, .bool false] 35 (0, 0))) ∧ Aside0 (wc.heap[gb158]? = some (.cells #[.int .i64 t166, .int .i64 t172, .int .i64 t178, .int .i64 t184, .int .i64 t190, .bool x159005_14, .bool x159006_14] 35 (0, 0))) ∧ Aside0 (IsS56 w0 wc g s0_0 x1001_14 x1002_14 x1003_14 x1004_14) ∧ Aside0 (KeepBut w wc g none) ∧ Aside0 (Below w0.heap.size w0 wc))
              case first =>
                have H := HC15.out
                clear HC15
                by_cases c32 : (l1.length : Int) > 6
                · rw [if_pos c32] at H
                  have c32b0 : decide (6 < (l1.length : Int)) = true := decide_eq_true c32
                  have c32b1 : decide (6 < l1.length) = true := decide_eq_true (by omega)
                  clear c32
                  (first | rw [c32b0] | (simp only [i64_w, i32_w]; rw [c32b0]) | skip)
                  by_cases c33 : 6 < (l1.length : Int)
                  · rw [if_pos c33] at H
                    have c33b0 : decide (6 < (l1.length : Int)) = true := decide_eq_true c33
                    have c33b1 : decide (6 < l1.length) = true := decide_eq_true (by omega)
                    clear c33
                    obtain ⟨y196, hy196⟩ : ∃ y_ : List ByteArray, y_ = (([(⟨#[97, 117, 116, 111]⟩ : ByteArray), (⟨#[114, 101, 115, 101, 116]⟩ : ByteArray)] : List ByteArray)) := ⟨_, rfl⟩
                    replace H : ((chicaneref36_B_One.f k s0_0 t191 t192 t193 t194 (rdOf ByteArray.empty l1 6) y196).bind fun bt199 => (chicaneref39_one.j0 k l1 t160 s0_0 bt199.2.1 bt199.2.2.1 bt199.2.2.2.1 bt199.2.2.2.2 t166 t172 t178 t184 t190 (!(bt199.1 == 1)) (bt199.1 == 1))) = some (r1, r2, r3, r4, r5, r6, r7, r8, r9, r10, r11, r12) := by first | (rw [hy196]; with_reducible exact H) | (have H2_ := (Option.bind_some _ _).symm.trans H; rw [hy196]; with_reducible exact H2_) | (have H2_ := (Option.bind_some _ _).symm.trans H; with_reducible exact H2_) | with_reducible exact H | (rw [hy196]; exact H) | exact H
                    have Ny196 := Aside0.mk hy196
                    clear hy196
                    replace H := Option.bind_eq_some_iff.mp H
                    obtain ⟨⟨t199, t200, t201, t202, t203⟩, A340, H⟩ := H
                    replace H : (chicaneref39_one.j0 k l1 t160 s0_0 t200 t201 t202 t203 t166 t172 t178 t184 t190 (!(t199 == 1)) (t199 == 1)) = some (r1, r2, r3, r4, r5, r6, r7, r8, r9, r10, r11, r12) := H
                    have A34 := Aside0.mk A340
                    clear A340
                    have H' := Aside0.mk H
                    clear H
                    have p195 : 0 ≤ (6 : Int) := (by omega)
                    have q195 : 6 < (l1.length : Int) := of_decide_eq_true (by first | (with_reducible assumption) | assumption)
                    obtain ⟨ad195, e195, hx195_0⟩ := Kd.at_string HR1.out 6 p195 q195
                    obtain rfl : ad159 = ad195 := (by injection e195)
                    (try simp only [show (6 : Int).toNat = 6 from rfl, Nat.reduceMul, Nat.reduceEqDiff, Go.Addr.add, ↓reduceIte] at hx195_0)
                    have qi195 : (6 < l1.length) = True := eq_true (by omega)
                    (try rw [show ((6 : Int)).toNat = 6 from rfl] at hx195_0)
                    have hn195_0 : ad159.block ≠ gb158 := Nat.ne_of_lt (Nat.lt_of_lt_of_le (by have := World.block_lt_of_cell? _ _ hx195_0; first | rwa [add_block] at this | exact this) GW158.out)
                    replace hx195_0 := keep_cell HK.out hx195_0 (by first | (rw [add_block]; exact hf1 _ rfl (by omega)) | exact hf1 _ rfl (by omega) | exact hf1 ad159 rfl (by omega))
                    replace hx195_0 := (cell_far (p := ⟨gb158, 4, none⟩) (by first | (rw [add_block]; exact hn195_0) | (show (Addr.add _ _).block ≠ _; rw [add_block]; exact hn195_0) | exact hn195_0) (.int .i64 t190)).trans hx195_0
                    clear hn195_0
                    replace p195 := eq_true p195
                    replace q195 := eq_true q195
                    go_wp2_with (first | ((with_reducible refine gate_dst (N := 51) rfl ?_); refine Kd.R_lit Kd.string _ 9 ?hg (N := 51) ?hd (xs := ([(⟨#[97, 117, 116, 111]⟩ : ByteArray), (⟨#[114, 101, 115, 101, 116]⟩ : ByteArray)] : List ByteArray)) (inner := [.string (⟨#[97, 117, 116, 111]⟩ : ByteArray), .string (⟨#[114, 101, 115, 101, 116]⟩ : ByteArray)]) (ok := fun _ => True) (okp := fun _ => True) ?hr ?hp (fun _ hk => hk) trivial (Below.refl _ _) (Nat.le_refl _) (by simp) ?_; (case hd => rfl); (case hg => rfl); (case hr => first | (go_simp; done) | (go_simp; rfl)); (case hp => exact (Reps.one (show Kd.M Kd.string _ _ _ (⟨#[97, 117, 116, 111]⟩ : ByteArray) [.string (⟨#[97, 117, 116, 111]⟩ : ByteArray)] from rfl) (Reps.one (show Kd.M Kd.string _ _ _ (⟨#[114, 101, 115, 101, 116]⟩ : ByteArray) [.string (⟨#[114, 101, 115, 101, 116]⟩ : ByteArray)] from rfl) (Reps.none _ _)))); intro v197 w35 ho36 hb hg_ hnew_; clear hg_ hnew_; (first | rw [← Ny196.out] at ho36 | (simp only [Int.reduceToNat] at ho36; rw [← Ny196.out] at ho36)); have n0_ := Aside0.mk (Kd.R_lower ho36 (keep_size (w := w) (g := g) (row := none) (by repeat (first | (with_reducible first | exact HK.out | apply KeepBut.set_ | apply keep_drewN | apply keep_drew | apply keep_alloc | refine keep_far ?_ GW157.out _ | refine keep_far ?_ GW158.out _) | exact HK.out)))); have n1_ := Aside0.mk (IsS56.below (show IsS56 w0 (w30.setCell ⟨gb158, 4, none⟩ (.int .i64 t190)) g s0_0 t191 t192 t193 t194 from by repeat (first | (with_reducible first | exact HI0.out | apply IsS56.alloc | apply IsS56.drewN | apply IsS56.drew | apply IsS56.set_1 | apply IsS56.set_2 | apply IsS56.set_3 | apply IsS56.set_4 | refine IsS56.far ?_ NB0_157.out _ | refine IsS56.far ?_ NB0_158.out _) | exact HI0.out)) hb); have n2_ := Aside0.mk (blk_below (g := gb157) (o := .cells #[.int .i64 0, .int .i64 0, .int .i64 0, .int .i64 0, .int .i64 0, .bool false, .bool false] 35 (0, 0)) (by (with_reducible repeat (first | refine blk_drewN ?_ _ | refine blk_drew ?_ | refine blk_alloc ?_ _)); refine blk_far ?_ NB157_158.out _; (with_reducible repeat (first | refine blk_drewN ?_ _ | refine blk_drew ?_ | refine blk_alloc ?_ _)); exact BK157.out) hb); have n3_ := Aside0.mk (blk_below (g := gb158) (o := .cells #[.int .i64 t166, .int .i64 t172, .int .i64 t178, .int .i64 t184, .int .i64 t190, .bool false, .bool false] 35 (0, 0)) (by (with_reducible repeat (first | refine blk_drewN ?_ _ | refine blk_drew ?_ | refine blk_alloc ?_ _)); refine blk_put (cs := #[.int .i64 t166, .int .i64 t172, .int .i64 t178, .int .i64 t184, .int .i64 0, .bool false, .bool false]) ?_ 4 _ rfl; (with_reducible repeat (first | refine blk_drewN ?_ _ | refine blk_drew ?_ | refine blk_alloc ?_ _)); exact BK158.out) hb); have n4_ := Aside0.mk (KeepBut.trans (by repeat (first | (with_reducible first | exact HK.out | apply KeepBut.set_ | apply keep_drewN | apply keep_drew | apply keep_alloc | refine keep_far ?_ GW157.out _ | refine keep_far ?_ GW158.out _) | exact HK.out)) (KeepBut.of_below hb g none) (.inl rfl)); have n5_ := Aside0.mk (below_step (by repeat (first | (with_reducible first | exact HB.out | apply below_alloc | apply pw_below_drewN | apply below_drew1 | refine below_set ?_ (IsS56.ge HI0.out) | refine below_set ?_ GE157.out | refine below_set ?_ GE158.out) | exact HB.out)) hb); clear HI0; clear BK157; clear BK158; clear HK; clear HB; have HO198 := n0_; have HI0 := n1_; have BK157 := n2_; have BK158 := n3_; have HK := n4_; have HB := n5_; clear n0_ n1_ n2_ n3_ n4_ n5_; clear hb ho36; obtain ⟨Ao37, co37, eo37⟩ := Kd.R_slice HO198.out; subst eo37) | ((with_reducible refine gate_callee (f := 79) rfl ?_); refine goesL_ (some 52) rfl rfl Tryd.func79 (by kernel_rfl) rfl #[.pointer (some ⟨g, 0, none⟩), .string (rdOf ByteArray.empty l1 6), .slice Ao37 y196.length co37] rfl (by (try simp only [List.map_toArray, List.map_cons, List.map_nil]); first | done | rfl | (simp only [List.length_drop, List.length_take]; rfl)) ?_; (with_reducible refine (chicaneref36_B_One.calls k g s0_0 t191 t192 t193 t194 (rdOf ByteArray.empty l1 6) _ _ y196 t199 t200 t201 t202 t203 w0 _ ?side1 ?side2 ?side3 ?side4 ?side5 A34.out).mono ?_); (case side1 => repeat (first | (with_reducible first | exact HI0.out | apply IsS56.alloc | apply IsS56.drewN | apply IsS56.drew | apply IsS56.set_1 | apply IsS56.set_2 | apply IsS56.set_3 | apply IsS56.set_4 | refine IsS56.far ?_ NB0_157.out _ | refine IsS56.far ?_ NB0_158.out _) | exact HI0.out)); (case side2 => repeat (first | (with_reducible first | exact HB.out | apply below_alloc | apply pw_below_drewN | apply below_drew1 | refine below_set ?_ (IsS56.ge HI0.out) | refine below_set ?_ GE157.out | refine below_set ?_ GE158.out) | exact HB.out)); (case side3 => repeat (first | exact (Kd.R_reads' HO198.out).2.2 | (with_reducible refine Kd.C_alloc ?_ _) | (with_reducible refine Kd.C_drewN ?_ _) | (with_reducible refine Kd.C_drew ?_))); (case side4 => exact (Kd.R_reads' HO198.out).2.1); (case side5 => exact far_slice (IsS56.own_ne HI0.out HO198.out (by decide))); rintro e w38 ⟨rfl, hi, hb, hk⟩; refine ⟨_, rfl, ?_⟩; have n0_ := Aside0.mk (KeepBut.blk hk (g' := gb157) (o := .cells #[.int .i64 0, .int .i64 0, .int .i64 0, .int .i64 0, .int .i64 0, .bool false, .bool false] 35 (0, 0)) (by (with_reducible repeat (first | refine blk_drewN ?_ _ | refine blk_drew ?_ | refine blk_alloc ?_ _)); exact BK157.out) NB157_0.out (by simp)); have n1_ := Aside0.mk (KeepBut.blk hk (g' := gb158) (o := .cells #[.int .i64 t166, .int .i64 t172, .int .i64 t178, .int .i64 t184, .int .i64 t190, .bool false, .bool false] 35 (0, 0)) (by (with_reducible repeat (first | refine blk_drewN ?_ _ | refine blk_drew ?_ | refine blk_alloc ?_ _)); exact BK158.out) NB158_0.out (by simp)); have n2_ := Aside0.mk (Kd.R_mono (Kd.R_keep (IsS56.apart (show IsS56 w0 _ g s0_0 t191 t192 t193 t194 from by repeat (first | (with_reducible first | exact HI0.out | apply IsS56.alloc | apply IsS56.drewN | apply IsS56.drew | apply IsS56.set_1 | apply IsS56.set_2 | apply IsS56.set_3 | apply IsS56.set_4 | refine IsS56.far ?_ NB0_157.out _ | refine IsS56.far ?_ NB0_158.out _) | exact HI0.out)) (by (with_reducible repeat (first | apply Kd.R_alloc | apply Kd.R_drewN | apply Kd.R_drew)); exact HO198.out) (by decide)) hk (fun _ h => h.2)) (fun _ h => h.1)); have n3_ := Aside0.mk (KeepBut.trans (by repeat (first | (with_reducible first | exact HK.out | apply KeepBut.set_ | apply keep_drewN | apply keep_drew | apply keep_alloc | refine keep_far ?_ GW157.out _ | refine keep_far ?_ GW158.out _) | exact HK.out)) hk (.inl rfl)); have n4_ := Aside0.mk (hb); have n5_ := Aside0.mk (hi); clear BK157; clear BK158; clear HO198; clear HK; clear HB; clear HI0; have BK157 := n0_; have BK158 := n1_; have HO198 := n2_; have HK := n3_; have HB := n4_; have HI0 := n5_; clear n0_ n1_ n2_ n3_ n4_ n5_; (try clear hb); (try clear hb2); (try clear hk); (try clear hi); have hnb39 := NB158_157.out; have hnc39 := NB157_158.out; have hnb40 := NB158_0.out; have hnc40 := NB0_158.out; have hcz41_0 : w38.cell? ⟨gb158, 0, none⟩ = some (.int .i64 t166) := (blk_cell BK158.out 0).trans rfl; have hcz41_1 : w38.cell? ⟨gb158, 1, none⟩ = some (.int .i64 t172) := (blk_cell BK158.out 1).trans rfl; have hcz41_2 : w38.cell? ⟨gb158, 2, none⟩ = some (.int .i64 t178) := (blk_cell BK158.out 2).trans rfl; have hcz41_3 : w38.cell? ⟨gb158, 3, none⟩ = some (.int .i64 t184) := (blk_cell BK158.out 3).trans rfl; have hcz41_4 : w38.cell? ⟨gb158, 4, none⟩ = some (.int .i64 t190) := (blk_cell BK158.out 4).trans rfl; have hcz41_5 : w38.cell? ⟨gb158, 5, none⟩ = some (.bool false) := (blk_cell BK158.out 5).trans rfl; have hcz41_6 : w38.cell? ⟨gb158, 6, none⟩ = some (.bool false) := (blk_cell BK158.out 6).trans rfl; have hfz41_0 := blk_frozen BK158.out 0; have hfz41_1 := blk_frozen BK158.out 1; have hfz41_2 := blk_frozen BK158.out 2; have hfz41_3 := blk_frozen BK158.out 3; have hfz41_4 := blk_frozen BK158.out 4; have hfz41_5 := blk_frozen BK158.out 5; have hfz41_6 := blk_frozen BK158.out 6))
                    go_meet
                    case rel => exact ⟨_, (t200), (t201), (t202), (t203), (!(t199 == 1)), ((t199 == 1)), H', ⟨by first | omega | exact Nat.le_refl _⟩, ⟨by (with_reducible repeat (first | refine blk_drewN ?_ _ | refine blk_drew ?_ | refine blk_alloc ?_ _)); refine blk_far ?_ NB157_158.out _; (with_reducible repeat (first | refine blk_drewN ?_ _ | refine blk_drew ?_ | refine blk_alloc ?_ _)); refine blk_far ?_ NB157_158.out _; (with_reducible repeat (first | refine blk_drewN ?_ _ | refine blk_drew ?_ | refine blk_alloc ?_ _)); exact BK157.out⟩, ⟨by (with_reducible repeat (first | refine blk_drewN ?_ _ | refine blk_drew ?_ | refine blk_alloc ?_ _)); refine blk_put (cs := #[.int .i64 t166, .int .i64 t172, .int .i64 t178, .int .i64 t184, .int .i64 t190, .bool false, .bool (t199 == 1)]) ?_ 5 _ rfl; (with_reducible repeat (first | refine blk_drewN ?_ _ | refine blk_drew ?_ | refine blk_alloc ?_ _)); refine blk_put (cs := #[.int .i64 t166, .int .i64 t172, .int .i64 t178, .int .i64 t184, .int .i64 t190, .bool false, .bool false]) ?_ 6 _ rfl; (with_reducible repeat (first | refine blk_drewN ?_ _ | refine blk_drew ?_ | refine blk_alloc ?_ _)); exact BK158.out⟩, ⟨by repeat (first | (with_reducible first | exact HI0.out | apply IsS56.alloc | apply IsS56.drewN | apply IsS56.drew | apply IsS56.set_1 | apply IsS56.set_2 | apply IsS56.set_3 | apply IsS56.set_4 | refine IsS56.far ?_ NB0_157.out _ | refine IsS56.far ?_ NB0_158.out _) | exact HI0.out)⟩, ⟨by repeat (first | (with_reducible first | exact HK.out | apply KeepBut.set_ | apply keep_drewN | apply keep_drew | apply keep_alloc | refine keep_far ?_ GW157.out _ | refine keep_far ?_ GW158.out _) | exact HK.out)⟩, ⟨by repeat (first | (with_reducible first | exact HB.out | apply below_alloc | apply pw_below_drewN | apply below_drew1 | refine below_set ?_ (IsS56.ge HI0.out) | refine below_set ?_ GE157.out | refine below_set ?_ GE158.out) | exact HB.out)⟩⟩
                  · rw [if_neg c33] at H
                    exact absurd H (by simp)
                · rw [if_neg c32] at H
                  have c32b0 : decide (6 < (l1.length : Int)) = false := decide_eq_false c32
                  have c32b1 : decide (6 < l1.length) = false := decide_eq_false (by omega)
                  clear c32
                  (first | rw [c32b0] | (simp only [i64_w, i32_w]; rw [c32b0]) | skip)
                  have H' := Aside0.mk H
                  clear H
                  go_wp2
                  go_meet
                  case rel => exact ⟨_, (t191), (t192), (t193), (t194), (false), (false), H', ⟨by first | omega | exact Nat.le_refl _⟩, ⟨by (with_reducible repeat (first | refine blk_drewN ?_ _ | refine blk_drew ?_ | refine blk_alloc ?_ _)); refine blk_far ?_ NB157_158.out _; (with_reducible repeat (first | refine blk_drewN ?_ _ | refine blk_drew ?_ | refine blk_alloc ?_ _)); exact BK157.out⟩, ⟨by (with_reducible repeat (first | refine blk_drewN ?_ _ | refine blk_drew ?_ | refine blk_alloc ?_ _)); refine blk_put (cs := #[.int .i64 t166, .int .i64 t172, .int .i64 t178, .int .i64 t184, .int .i64 0, .bool false, .bool false]) ?_ 4 _ rfl; (with_reducible repeat (first | refine blk_drewN ?_ _ | refine blk_drew ?_ | refine blk_alloc ?_ _)); exact BK158.out⟩, ⟨by repeat (first | (with_reducible first | exact HI0.out | apply IsS56.alloc | apply IsS56.drewN | apply IsS56.drew | apply IsS56.set_1 | apply IsS56.set_2 | apply IsS56.set_3 | apply IsS56.set_4 | refine IsS56.far ?_ NB0_157.out _ | refine IsS56.far ?_ NB0_158.out _) | exact HI0.out)⟩, ⟨by repeat (first | (with_reducible first | exact HK.out | apply KeepBut.set_ | apply keep_drewN | apply keep_drew | apply keep_alloc | refine keep_far ?_ GW157.out _ | refine keep_far ?_ GW158.out _) | exact HK.out)⟩, ⟨by repeat (first | (with_reducible first | exact HB.out | apply below_alloc | apply pw_below_drewN | apply below_drew1 | refine below_set ?_ (IsS56.ge HI0.out) | refine below_set ?_ GE157.out | refine below_set ?_ GE158.out) | exact HB.out)⟩⟩
              case rest =>
                clear HC15
                try clear c1
                try clear p1
                try clear q1
                try clear hx1
                try clear qi1
                try clear p2
                try clear c3
                try clear c3b0
                try clear c3b1
                try clear c4
                try clear c5
                try clear c5b0
                try clear c5b1
                try clear c7
                try clear c7b0
                try clear c7b1
                try clear c9
                try clear c9b0
                try clear c9b1
                try clear c11
                try clear c11b0
                try clear c11b1
                try clear c13
                try clear c13b0
                try clear c13b1
                try clear p15
                try clear q15
                try clear hx15
                try clear qi15
                try clear p16
                try clear q16
                try clear hx16
                try clear qi16
                try clear p17
                try clear q17
                try clear hx17
                try clear qi17
                try clear c18
                try clear p18
                try clear q18
                try clear hx18
                try clear qi18
                try clear c19
                try clear p19
                try clear q19
                try clear hx19
                try clear qi19
                try clear c32
                try clear c32b0
                try clear c32b1
                try clear c33
                try clear c33b0
                try clear c33b1
                try clear c39
                try clear c40
                try clear hcz20_0
                try clear hcz20_1
                try clear hcz20_2
                try clear hcz20_3
                try clear hcz20_4
                try clear hcz20_5
                try clear hcz20_6
                try clear hcz23_0
                try clear hcz23_1
                try clear hcz23_2
                try clear hcz23_3
                try clear hcz23_4
                try clear hcz23_5
                try clear hcz23_6
                try clear hcz25_0
                try clear hcz25_1
                try clear hcz25_2
                try clear hcz25_3
                try clear hcz25_4
                try clear hcz25_5
                try clear hcz25_6
                try clear hcz27_0
                try clear hcz27_1
                try clear hcz27_2
                try clear hcz27_3
                try clear hcz27_4
                try clear hcz27_5
                try clear hcz27_6
                try clear hcz29_0
                try clear hcz29_1
                try clear hcz29_2
                try clear hcz29_3
                try clear hcz29_4
                try clear hcz29_5
                try clear hcz29_6
                try clear hcz31_0
                try clear hcz31_1
                try clear hcz31_2
                try clear hcz31_3
                try clear hcz31_4
                try clear hcz31_5
                try clear hcz31_6
                try clear hcz41_0
                try clear hcz41_1
                try clear hcz41_2
                try clear hcz41_3
                try clear hcz41_4
                try clear hcz41_5
                try clear hcz41_6
                try clear hfz20_0
                try clear hfz20_1
                try clear hfz20_2
                try clear hfz20_3
                try clear hfz20_4
                try clear hfz20_5
                try clear hfz20_6
                try clear hfz23_0
                try clear hfz23_1
                try clear hfz23_2
                try clear hfz23_3
                try clear hfz23_4
                try clear hfz23_5
                try clear hfz23_6
                try clear hfz25_0
                try clear hfz25_1
                try clear hfz25_2
                try clear hfz25_3
                try clear hfz25_4
                try clear hfz25_5
                try clear hfz25_6
                try clear hfz27_0
                try clear hfz27_1
                try clear hfz27_2
                try clear hfz27_3
                try clear hfz27_4
                try clear hfz27_5
                try clear hfz27_6
                try clear hfz29_0
                try clear hfz29_1
                try clear hfz29_2
                try clear hfz29_3
                try clear hfz29_4
                try clear hfz29_5
                try clear hfz29_6
                try clear hfz31_0
                try clear hfz31_1
                try clear hfz31_2
                try clear hfz31_3
                try clear hfz31_4
                try clear hfz31_5
                try clear hfz31_6
                try clear hfz41_0
                try clear hfz41_1
                try clear hfz41_2
                try clear hfz41_3
                try clear hfz41_4
                try clear hfz41_5
                try clear hfz41_6
                try clear hx159_0
                try clear hx165_0
                try clear hx171_0
                try clear hx177_0
                try clear hx183_0
                try clear hx189_0
                try clear hx195_0
                try clear p159
                try clear p165
                try clear p171
                try clear p177
                try clear p183
                try clear p189
                try clear p195
                try clear q159
                try clear q165
                try clear q171
                try clear q177
                try clear q183
                try clear q189
                try clear q195
                obtain ⟨kq, x1001_14, x1002_14, x1003_14, x1004_14, x159005_14, x159006_14, HA, HJ14, BK157, BK158, HI0, HK, HB⟩ := hcut
                cases kq with
                | zero => exact absurd HA.out (by simp [chicaneref39_one.j0])
                | succ kj14 =>
                  have H := HA.out
                  clear HA
                  simp only [chicaneref39_one.j0] at H
                  by_cases c42 : (l1.length : Int) > 7
                  · rw [if_pos c42] at H
                    have c42b0 : decide (7 < (l1.length : Int)) = true := decide_eq_true c42
                    have c42b1 : decide (7 < l1.length) = true := decide_eq_true (by omega)
                    clear c42
                    by_cases c43 : x159006_14 = true
                    · subst c43
                      have H1 : ((chicaneref36_B_One.f kj14 s0_0 x1001_14 x1002_14 x1003_14 x1004_14 (⟨#[]⟩ : ByteArray) (([(⟨#[97, 117, 116, 111]⟩ : ByteArray)] : List ByteArray))).bind fun bt207 => (if 7 < (l1.length : Int) then ((chicaneref36_B_One.f kj14 s0_0 bt207.2.1 bt207.2.2.1 bt207.2.2.2.1 bt207.2.2.2.2 (rdOf ByteArray.empty l1 7) (([(⟨#[114, 101, 115, 101, 116]⟩ : ByteArray)] : List ByteArray))).bind fun bt216 => (some (t160, t166, t172, t178, t184, t190, x159005_14, true, bt216.2.1, bt216.2.2.1, bt216.2.2.2.1, bt216.2.2.2.2))) else (none))) = some (r1, r2, r3, r4, r5, r6, r7, r8, r9, r10, r11, r12) := by rw [if_pos rfl] at H; exact H
                      clear H
                      have H := H1
                      clear H1
                      obtain ⟨y204, hy204⟩ : ∃ y_ : List ByteArray, y_ = (([(⟨#[97, 117, 116, 111]⟩ : ByteArray)] : List ByteArray)) := ⟨_, rfl⟩
                      replace H : ((chicaneref36_B_One.f kj14 s0_0 x1001_14 x1002_14 x1003_14 x1004_14 (⟨#[]⟩ : ByteArray) y204).bind fun bt207 => (if 7 < (l1.length : Int) then ((chicaneref36_B_One.f kj14 s0_0 bt207.2.1 bt207.2.2.1 bt207.2.2.2.1 bt207.2.2.2.2 (rdOf ByteArray.empty l1 7) (([(⟨#[114, 101, 115, 101, 116]⟩ : ByteArray)] : List ByteArray))).bind fun bt216 => (some (t160, t166, t172, t178, t184, t190, x159005_14, true, bt216.2.1, bt216.2.2.1, bt216.2.2.2.1, bt216.2.2.2.2))) else (none))) = some (r1, r2, r3, r4, r5, r6, r7, r8, r9, r10, r11, r12) := by first | (rw [hy204]; with_reducible exact H) | (have H2_ := (Option.bind_some _ _).symm.trans H; rw [hy204]; with_reducible exact H2_) | (have H2_ := (Option.bind_some _ _).symm.trans H; with_reducible exact H2_) | with_reducible exact H | (rw [hy204]; exact H) | exact H
                      have Ny204 := Aside0.mk hy204
                      clear hy204
                      replace H := Option.bind_eq_some_iff.mp H
                      obtain ⟨⟨t207, t208, t209, t210, t211⟩, A440, H⟩ := H
                      replace H : (if 7 < (l1.length : Int) then ((chicaneref36_B_One.f kj14 s0_0 t208 t209 t210 t211 (rdOf ByteArray.empty l1 7) (([(⟨#[114, 101, 115, 101, 116]⟩ : ByteArray)] : List ByteArray))).bind fun bt216 => (some (t160, t166, t172, t178, t184, t190, x159005_14, true, bt216.2.1, bt216.2.2.1, bt216.2.2.2.1, bt216.2.2.2.2))) else (none)) = some (r1, r2, r3, r4, r5, r6, r7, r8, r9, r10, r11, r12) := H
                      have A44 := Aside0.mk A440
                      clear A440
                      by_cases c45 : 7 < (l1.length : Int)
                      · rw [if_pos c45] at H
                        have c45b0 : decide (7 < (l1.length : Int)) = true := decide_eq_true c45
                        have c45b1 : decide (7 < l1.length) = true := decide_eq_true (by omega)
                        clear c45
                        obtain ⟨y213, hy213⟩ : ∃ y_ : List ByteArray, y_ = (([(⟨#[114, 101, 115, 101, 116]⟩ : ByteArray)] : List ByteArray)) := ⟨_, rfl⟩
                        replace H : ((chicaneref36_B_One.f kj14 s0_0 t208 t209 t210 t211 (rdOf ByteArray.empty l1 7) y213).bind fun bt216 => (some (t160, t166, t172, t178, t184, t190, x159005_14, true, bt216.2.1, bt216.2.2.1, bt216.2.2.2.1, bt216.2.2.2.2))) = some (r1, r2, r3, r4, r5, r6, r7, r8, r9, r10, r11, r12) := by first | (rw [hy213]; with_reducible exact H) | (have H2_ := (Option.bind_some _ _).symm.trans H; rw [hy213]; with_reducible exact H2_) | (have H2_ := (Option.bind_some _ _).symm.trans H; with_reducible exact H2_) | with_reducible exact H | (rw [hy213]; exact H) | exact H
                        have Ny213 := Aside0.mk hy213
                        clear hy213
                        replace H := Option.bind_eq_some_iff.mp H
                        obtain ⟨⟨t216, t217, t218, t219, t220⟩, A460, H⟩ := H
                        replace H : (some (t160, t166, t172, t178, t184, t190, x159005_14, true, t217, t218, t219, t220)) = some (r1, r2, r3, r4, r5, r6, r7, r8, r9, r10, r11, r12) := H
                        have A46 := Aside0.mk A460
                        clear A460
                        simp only [Option.some.injEq, Prod.mk.injEq] at H
                        obtain ⟨rfl, rfl, rfl, rfl, rfl, rfl, rfl, rfl, rfl, rfl, rfl, rfl⟩ := H
                        have hnb47 := NB158_157.out
                        have hnc47 := NB157_158.out
                        have hnb48 := NB158_0.out
                        have hnc48 := NB0_158.out
                        have hcz49_0 : wc.cell? ⟨gb158, 0, none⟩ = some (.int .i64 t166) := (blk_cell BK158.out 0).trans rfl
                        have hcz49_1 : wc.cell? ⟨gb158, 1, none⟩ = some (.int .i64 t172) := (blk_cell BK158.out 1).trans rfl
                        have hcz49_2 : wc.cell? ⟨gb158, 2, none⟩ = some (.int .i64 t178) := (blk_cell BK158.out 2).trans rfl
                        have hcz49_3 : wc.cell? ⟨gb158, 3, none⟩ = some (.int .i64 t184) := (blk_cell BK158.out 3).trans rfl
                        have hcz49_4 : wc.cell? ⟨gb158, 4, none⟩ = some (.int .i64 t190) := (blk_cell BK158.out 4).trans rfl
                        have hcz49_5 : wc.cell? ⟨gb158, 5, none⟩ = some (.bool x159005_14) := (blk_cell BK158.out 5).trans rfl
                        have hcz49_6 : wc.cell? ⟨gb158, 6, none⟩ = some (.bool true) := (blk_cell BK158.out 6).trans rfl
                        have hfz49_0 := blk_frozen BK158.out 0
                        have hfz49_1 := blk_frozen BK158.out 1
                        have hfz49_2 := blk_frozen BK158.out 2
                        have hfz49_3 := blk_frozen BK158.out 3
                        have hfz49_4 := blk_frozen BK158.out 4
                        have hfz49_5 := blk_frozen BK158.out 5
                        have hfz49_6 := blk_frozen BK158.out 6
                        try go_wp2_with (first | ((with_reducible refine gate_dst (N := 65) rfl ?_); refine Kd.R_lit Kd.string _ 9 ?hg (N := 65) ?hd (xs := ([(⟨#[97, 117, 116, 111]⟩ : ByteArray)] : List ByteArray)) (inner := [.string (⟨#[97, 117, 116, 111]⟩ : ByteArray)]) (ok := fun _ => True) (okp := fun _ => True) ?hr ?hp (fun _ hk => hk) trivial (Below.refl _ _) (Nat.le_refl _) (by simp) ?_; (case hd => rfl); (case hg => rfl); (case hr => first | (go_simp; done) | (go_simp; rfl)); (case hp => exact (Reps.one (show Kd.M Kd.string _ _ _ (⟨#[97, 117, 116, 111]⟩ : ByteArray) [.string (⟨#[97, 117, 116, 111]⟩ : ByteArray)] from rfl) (Reps.none _ _))); intro v205 w50 ho51 hb hg_ hnew_; clear hg_ hnew_; (first | rw [← Ny204.out] at ho51 | (simp only [Int.reduceToNat] at ho51; rw [← Ny204.out] at ho51)); have n0_ := Aside0.mk (Kd.R_lower ho51 (keep_size (w := w) (g := g) (row := none) (by repeat (first | (with_reducible first | exact HK.out | apply KeepBut.set_ | apply keep_drewN | apply keep_drew | apply keep_alloc | refine keep_far ?_ GW157.out _ | refine keep_far ?_ GW158.out _) | exact HK.out)))); have n1_ := Aside0.mk (blk_below (g := gb157) (o := .cells #[.int .i64 0, .int .i64 0, .int .i64 0, .int .i64 0, .int .i64 0, .bool false, .bool false] 35 (0, 0)) (by (with_reducible repeat (first | refine blk_drewN ?_ _ | refine blk_drew ?_ | refine blk_alloc ?_ _)); exact BK157.out) hb); have n2_ := Aside0.mk (blk_below (g := gb158) (o := .cells #[.int .i64 t166, .int .i64 t172, .int .i64 t178, .int .i64 t184, .int .i64 t190, .bool x159005_14, .bool true] 35 (0, 0)) (by (with_reducible repeat (first | refine blk_drewN ?_ _ | refine blk_drew ?_ | refine blk_alloc ?_ _)); exact BK158.out) hb); have n3_ := Aside0.mk (IsS56.below (by repeat (first | (with_reducible first | exact HI0.out | apply IsS56.alloc | apply IsS56.drewN | apply IsS56.drew | apply IsS56.set_1 | apply IsS56.set_2 | apply IsS56.set_3 | apply IsS56.set_4 | refine IsS56.far ?_ NB0_157.out _ | refine IsS56.far ?_ NB0_158.out _) | exact HI0.out)) hb); have n4_ := Aside0.mk (KeepBut.trans (by repeat (first | (with_reducible first | exact HK.out | apply KeepBut.set_ | apply keep_drewN | apply keep_drew | apply keep_alloc | refine keep_far ?_ GW157.out _ | refine keep_far ?_ GW158.out _) | exact HK.out)) (KeepBut.of_below hb g none) (.inl rfl)); have n5_ := Aside0.mk (below_step (by repeat (first | (with_reducible first | exact HB.out | apply below_alloc | apply pw_below_drewN | apply below_drew1 | refine below_set ?_ (IsS56.ge HI0.out) | refine below_set ?_ GE157.out | refine below_set ?_ GE158.out) | exact HB.out)) hb); clear BK157; clear BK158; clear HI0; clear HK; clear HB; have HO206 := n0_; have BK157 := n1_; have BK158 := n2_; have HI0 := n3_; have HK := n4_; have HB := n5_; clear n0_ n1_ n2_ n3_ n4_ n5_; clear hb ho51; obtain ⟨Ao52, co52, eo52⟩ := Kd.R_slice HO206.out; subst eo52) | ((with_reducible refine gate_callee (f := 79) rfl ?_); refine goesL_ (some 66) rfl rfl Tryd.func79 (by kernel_rfl) rfl #[.pointer (some ⟨g, 0, none⟩), .string (⟨#[]⟩ : ByteArray), .slice Ao52 y204.length co52] rfl (by (try simp only [List.map_toArray, List.map_cons, List.map_nil]); first | done | rfl | (simp only [List.length_drop, List.length_take]; rfl)) ?_; (with_reducible refine (chicaneref36_B_One.calls kj14 g s0_0 x1001_14 x1002_14 x1003_14 x1004_14 (⟨#[]⟩ : ByteArray) _ _ y204 t207 t208 t209 t210 t211 w0 _ ?side1 ?side2 ?side3 ?side4 ?side5 A44.out).mono ?_); (case side1 => repeat (first | (with_reducible first | exact HI0.out | apply IsS56.alloc | apply IsS56.drewN | apply IsS56.drew | apply IsS56.set_1 | apply IsS56.set_2 | apply IsS56.set_3 | apply IsS56.set_4 | refine IsS56.far ?_ NB0_157.out _ | refine IsS56.far ?_ NB0_158.out _) | exact HI0.out)); (case side2 => repeat (first | (with_reducible first | exact HB.out | apply below_alloc | apply pw_below_drewN | apply below_drew1 | refine below_set ?_ (IsS56.ge HI0.out) | refine below_set ?_ GE157.out | refine below_set ?_ GE158.out) | exact HB.out)); (case side3 => repeat (first | exact (Kd.R_reads' HO206.out).2.2 | (with_reducible refine Kd.C_alloc ?_ _) | (with_reducible refine Kd.C_drewN ?_ _) | (with_reducible refine Kd.C_drew ?_))); (case side4 => exact (Kd.R_reads' HO206.out).2.1); (case side5 => exact far_slice (IsS56.own_ne HI0.out HO206.out (by decide))); rintro e w53 ⟨rfl, hi, hb, hk⟩; refine ⟨_, rfl, ?_⟩; have n0_ := Aside0.mk (KeepBut.blk hk (g' := gb157) (o := .cells #[.int .i64 0, .int .i64 0, .int .i64 0, .int .i64 0, .int .i64 0, .bool false, .bool false] 35 (0, 0)) (by (with_reducible repeat (first | refine blk_drewN ?_ _ | refine blk_drew ?_ | refine blk_alloc ?_ _)); exact BK157.out) NB157_0.out (by simp)); have n1_ := Aside0.mk (KeepBut.blk hk (g' := gb158) (o := .cells #[.int .i64 t166, .int .i64 t172, .int .i64 t178, .int .i64 t184, .int .i64 t190, .bool x159005_14, .bool true] 35 (0, 0)) (by (with_reducible repeat (first | refine blk_drewN ?_ _ | refine blk_drew ?_ | refine blk_alloc ?_ _)); exact BK158.out) NB158_0.out (by simp)); have n2_ := Aside0.mk (Kd.R_mono (Kd.R_keep (IsS56.apart (show IsS56 w0 _ g s0_0 x1001_14 x1002_14 x1003_14 x1004_14 from by repeat (first | (with_reducible first | exact HI0.out | apply IsS56.alloc | apply IsS56.drewN | apply IsS56.drew | apply IsS56.set_1 | apply IsS56.set_2 | apply IsS56.set_3 | apply IsS56.set_4 | refine IsS56.far ?_ NB0_157.out _ | refine IsS56.far ?_ NB0_158.out _) | exact HI0.out)) (by (with_reducible repeat (first | apply Kd.R_alloc | apply Kd.R_drewN | apply Kd.R_drew)); exact HO206.out) (by decide)) hk (fun _ h => h.2)) (fun _ h => h.1)); have n3_ := Aside0.mk (KeepBut.trans (by repeat (first | (with_reducible first | exact HK.out | apply KeepBut.set_ | apply keep_drewN | apply keep_drew | apply keep_alloc | refine keep_far ?_ GW157.out _ | refine keep_far ?_ GW158.out _) | exact HK.out)) hk (.inl rfl)); have n4_ := Aside0.mk (hb); have n5_ := Aside0.mk (hi); clear BK157; clear BK158; clear HO206; clear HK; clear HB; clear HI0; have BK157 := n0_; have BK158 := n1_; have HO206 := n2_; have HK := n3_; have HB := n4_; have HI0 := n5_; clear n0_ n1_ n2_ n3_ n4_ n5_; (try clear hb); (try clear hb2); (try clear hk); (try clear hi); have p212 : 0 ≤ (7 : Int) := (by omega); have q212 : 7 < (l1.length : Int) := of_decide_eq_true (by first | (with_reducible assumption) | assumption); obtain ⟨ad212, e212, hx212_0⟩ := Kd.at_string HR1.out 7 p212 q212; obtain rfl : ad159 = ad212 := (by injection e212); (try simp only [show (7 : Int).toNat = 7 from rfl, Nat.reduceMul, Nat.reduceEqDiff, Go.Addr.add, ↓reduceIte] at hx212_0); have qi212 : (7 < l1.length) = True := eq_true (by omega); (try rw [show ((7 : Int)).toNat = 7 from rfl] at hx212_0); replace hx212_0 := keep_cell HK.out hx212_0 (by first | (rw [add_block]; exact hf1 _ rfl (by omega)) | exact hf1 _ rfl (by omega) | exact hf1 ad159 rfl (by omega)); replace p212 := eq_true p212; replace q212 := eq_true q212) | ((with_reducible refine gate_dst (N := 71) rfl ?_); refine Kd.R_lit Kd.string _ 9 ?hg (N := 71) ?hd (xs := ([(⟨#[114, 101, 115, 101, 116]⟩ : ByteArray)] : List ByteArray)) (inner := [.string (⟨#[114, 101, 115, 101, 116]⟩ : ByteArray)]) (ok := fun _ => True) (okp := fun _ => True) ?hr ?hp (fun _ hk => hk) trivial (Below.refl _ _) (Nat.le_refl _) (by simp) ?_; (case hd => rfl); (case hg => rfl); (case hr => first | (go_simp; done) | (go_simp; rfl)); (case hp => exact (Reps.one (show Kd.M Kd.string _ _ _ (⟨#[114, 101, 115, 101, 116]⟩ : ByteArray) [.string (⟨#[114, 101, 115, 101, 116]⟩ : ByteArray)] from rfl) (Reps.none _ _))); intro v214 w54 ho55 hb hg_ hnew_; clear hg_ hnew_; (first | rw [← Ny213.out] at ho55 | (simp only [Int.reduceToNat] at ho55; rw [← Ny213.out] at ho55)); have n0_ := Aside0.mk (Kd.R_elder' (by (with_reducible repeat (first | apply Kd.R_alloc | apply Kd.R_drewN | apply Kd.R_drew)); exact HO206.out) (Kd.R_base ho55) hb); have n1_ := Aside0.mk (Kd.R_lower (Kd.R_new' ho55 (Kd.R_lt (by (with_reducible repeat (first | apply Kd.R_alloc | apply Kd.R_drewN | apply Kd.R_drew)); exact HO206.out))) (keep_size (w := w) (g := g) (row := none) (by repeat (first | (with_reducible first | exact HK.out | apply KeepBut.set_ | apply keep_drewN | apply keep_drew | apply keep_alloc | refine keep_far ?_ GW157.out _ | refine keep_far ?_ GW158.out _) | exact HK.out)))); have n2_ := Aside0.mk (blk_below (g := gb157) (o := .cells #[.int .i64 0, .int .i64 0, .int .i64 0, .int .i64 0, .int .i64 0, .bool false, .bool false] 35 (0, 0)) (by (with_reducible repeat (first | refine blk_drewN ?_ _ | refine blk_drew ?_ | refine blk_alloc ?_ _)); exact BK157.out) hb); have n3_ := Aside0.mk (blk_below (g := gb158) (o := .cells #[.int .i64 t166, .int .i64 t172, .int .i64 t178, .int .i64 t184, .int .i64 t190, .bool x159005_14, .bool true] 35 (0, 0)) (by (with_reducible repeat (first | refine blk_drewN ?_ _ | refine blk_drew ?_ | refine blk_alloc ?_ _)); exact BK158.out) hb); have n4_ := Aside0.mk (IsS56.below (by repeat (first | (with_reducible first | exact HI0.out | apply IsS56.alloc | apply IsS56.drewN | apply IsS56.drew | apply IsS56.set_1 | apply IsS56.set_2 | apply IsS56.set_3 | apply IsS56.set_4 | refine IsS56.far ?_ NB0_157.out _ | refine IsS56.far ?_ NB0_158.out _) | exact HI0.out)) hb); have n5_ := Aside0.mk (KeepBut.trans (by repeat (first | (with_reducible first | exact HK.out | apply KeepBut.set_ | apply keep_drewN | apply keep_drew | apply keep_alloc | refine keep_far ?_ GW157.out _ | refine keep_far ?_ GW158.out _) | exact HK.out)) (KeepBut.of_below hb g none) (.inl rfl)); have n6_ := Aside0.mk (below_step (by repeat (first | (with_reducible first | exact HB.out | apply below_alloc | apply pw_below_drewN | apply below_drew1 | refine below_set ?_ (IsS56.ge HI0.out) | refine below_set ?_ GE157.out | refine below_set ?_ GE158.out) | exact HB.out)) hb); clear HO206; clear BK157; clear BK158; clear HI0; clear HK; clear HB; have HO206 := n0_; have HO215 := n1_; have BK157 := n2_; have BK158 := n3_; have HI0 := n4_; have HK := n5_; have HB := n6_; clear n0_ n1_ n2_ n3_ n4_ n5_ n6_; clear hb ho55; obtain ⟨Ao56, co56, eo56⟩ := Kd.R_slice HO215.out; subst eo56) | ((with_reducible refine gate_callee (f := 79) rfl ?_); refine goesL_ (some 72) rfl rfl Tryd.func79 (by kernel_rfl) rfl #[.pointer (some ⟨g, 0, none⟩), .string (rdOf ByteArray.empty l1 7), .slice Ao56 y213.length co56] rfl (by (try simp only [List.map_toArray, List.map_cons, List.map_nil]); first | done | rfl | (simp only [List.length_drop, List.length_take]; rfl)) ?_; (with_reducible refine (chicaneref36_B_One.calls kj14 g s0_0 t208 t209 t210 t211 (rdOf ByteArray.empty l1 7) _ _ y213 t216 t217 t218 t219 t220 w0 _ ?side1 ?side2 ?side3 ?side4 ?side5 A46.out).mono ?_); (case side1 => repeat (first | (with_reducible first | exact HI0.out | apply IsS56.alloc | apply IsS56.drewN | apply IsS56.drew | apply IsS56.set_1 | apply IsS56.set_2 | apply IsS56.set_3 | apply IsS56.set_4 | refine IsS56.far ?_ NB0_157.out _ | refine IsS56.far ?_ NB0_158.out _) | exact HI0.out)); (case side2 => repeat (first | (with_reducible first | exact HB.out | apply below_alloc | apply pw_below_drewN | apply below_drew1 | refine below_set ?_ (IsS56.ge HI0.out) | refine below_set ?_ GE157.out | refine below_set ?_ GE158.out) | exact HB.out)); (case side3 => repeat (first | exact (Kd.R_reads' HO215.out).2.2 | (with_reducible refine Kd.C_alloc ?_ _) | (with_reducible refine Kd.C_drewN ?_ _) | (with_reducible refine Kd.C_drew ?_))); (case side4 => exact (Kd.R_reads' HO215.out).2.1); (case side5 => exact far_slice (IsS56.own_ne HI0.out HO215.out (by decide))); rintro e w57 ⟨rfl, hi, hb, hk⟩; refine ⟨_, rfl, ?_⟩; have n0_ := Aside0.mk (KeepBut.blk hk (g' := gb157) (o := .cells #[.int .i64 0, .int .i64 0, .int .i64 0, .int .i64 0, .int .i64 0, .bool false, .bool false] 35 (0, 0)) (by (with_reducible repeat (first | refine blk_drewN ?_ _ | refine blk_drew ?_ | refine blk_alloc ?_ _)); exact BK157.out) NB157_0.out (by simp)); have n1_ := Aside0.mk (KeepBut.blk hk (g' := gb158) (o := .cells #[.int .i64 t166, .int .i64 t172, .int .i64 t178, .int .i64 t184, .int .i64 t190, .bool x159005_14, .bool true] 35 (0, 0)) (by (with_reducible repeat (first | refine blk_drewN ?_ _ | refine blk_drew ?_ | refine blk_alloc ?_ _)); exact BK158.out) NB158_0.out (by simp)); have n2_ := Aside0.mk (Kd.R_mono (Kd.R_keep (IsS56.apart (show IsS56 w0 _ g s0_0 t208 t209 t210 t211 from by repeat (first | (with_reducible first | exact HI0.out | apply IsS56.alloc | apply IsS56.drewN | apply IsS56.drew | apply IsS56.set_1 | apply IsS56.set_2 | apply IsS56.set_3 | apply IsS56.set_4 | refine IsS56.far ?_ NB0_157.out _ | refine IsS56.far ?_ NB0_158.out _) | exact HI0.out)) (by (with_reducible repeat (first | apply Kd.R_alloc | apply Kd.R_drewN | apply Kd.R_drew)); exact HO206.out) (by decide)) hk (fun _ h => h.2)) (fun _ h => h.1)); have n3_ := Aside0.mk (Kd.R_mono (Kd.R_keep (IsS56.apart (show IsS56 w0 _ g s0_0 t208 t209 t210 t211 from by repeat (first | (with_reducible first | exact HI0.out | apply IsS56.alloc | apply IsS56.drewN | apply IsS56.drew | apply IsS56.set_1 | apply IsS56.set_2 | apply IsS56.set_3 | apply IsS56.set_4 | refine IsS56.far ?_ NB0_157.out _ | refine IsS56.far ?_ NB0_158.out _) | exact HI0.out)) (by (with_reducible repeat (first | apply Kd.R_alloc | apply Kd.R_drewN | apply Kd.R_drew)); exact HO215.out) (by decide)) hk (fun _ h => h.2)) (fun _ h => h.1)); have n4_ := Aside0.mk (KeepBut.trans (by repeat (first | (with_reducible first | exact HK.out | apply KeepBut.set_ | apply keep_drewN | apply keep_drew | apply keep_alloc | refine keep_far ?_ GW157.out _ | refine keep_far ?_ GW158.out _) | exact HK.out)) hk (.inl rfl)); have n5_ := Aside0.mk (hb); have n6_ := Aside0.mk (hi); clear BK157; clear BK158; clear HO206; clear HO215; clear HK; clear HB; clear HI0; have BK157 := n0_; have BK158 := n1_; have HO206 := n2_; have HO215 := n3_; have HK := n4_; have HB := n5_; have HI0 := n6_; clear n0_ n1_ n2_ n3_ n4_ n5_ n6_; (try clear hb); (try clear hb2); (try clear hk); (try clear hi); have hcz58_0 : w57.cell? ⟨gb158, 0, none⟩ = some (.int .i64 t166) := (blk_cell BK158.out 0).trans rfl; have hcz58_1 : w57.cell? ⟨gb158, 1, none⟩ = some (.int .i64 t172) := (blk_cell BK158.out 1).trans rfl; have hcz58_2 : w57.cell? ⟨gb158, 2, none⟩ = some (.int .i64 t178) := (blk_cell BK158.out 2).trans rfl; have hcz58_3 : w57.cell? ⟨gb158, 3, none⟩ = some (.int .i64 t184) := (blk_cell BK158.out 3).trans rfl; have hcz58_4 : w57.cell? ⟨gb158, 4, none⟩ = some (.int .i64 t190) := (blk_cell BK158.out 4).trans rfl; have hcz58_5 : w57.cell? ⟨gb158, 5, none⟩ = some (.bool x159005_14) := (blk_cell BK158.out 5).trans rfl; have hcz58_6 : w57.cell? ⟨gb158, 6, none⟩ = some (.bool true) := (blk_cell BK158.out 6).trans rfl; have hfz58_0 := blk_frozen BK158.out 0; have hfz58_1 := blk_frozen BK158.out 1; have hfz58_2 := blk_frozen BK158.out 2; have hfz58_3 := blk_frozen BK158.out 3; have hfz58_4 := blk_frozen BK158.out 4; have hfz58_5 := blk_frozen BK158.out 5; have hfz58_6 := blk_frozen BK158.out 6))
                        have n0_ : Aside0 (Kd.R Kd.string 9 (w57.setCell ⟨gb158, 6, none⟩ (.bool true)) w.heap.size (fun k_ => some k_ ≠ (.slice Ao56 y213.length co56 : Value).ownBlock) (.slice Ao52 y204.length co52) y204) := ⟨by (with_reducible repeat (first | apply Kd.R_alloc | apply Kd.R_drewN | apply Kd.R_drew)); exact Kd.R_mono (Kd.R_far (p := ⟨gb158, 6, none⟩) (Kd.R_types HO206.out BK158.out (by decide)) (fun _ hk => hk.2) (.bool true)) (fun _ hk => hk.1.2)⟩
                        have n1_ : Aside0 (Kd.R Kd.string 9 (w57.setCell ⟨gb158, 6, none⟩ (.bool true)) w.heap.size (fun k_ => some k_ ≠ (.slice Ao52 y204.length co52 : Value).ownBlock) (.slice Ao56 y213.length co56) y213) := ⟨by (with_reducible repeat (first | apply Kd.R_alloc | apply Kd.R_drewN | apply Kd.R_drew)); exact Kd.R_mono (Kd.R_far (p := ⟨gb158, 6, none⟩) (Kd.R_types HO215.out BK158.out (by decide)) (fun _ hk => hk.2) (.bool true)) (fun _ hk => hk.1.2)⟩
                        have n2_ : Aside0 ((w57.setCell ⟨gb158, 6, none⟩ (.bool true)).heap[gb157]? = some (.cells #[.int .i64 0, .int .i64 0, .int .i64 0, .int .i64 0, .int .i64 0, .bool false, .bool false] 35 (0, 0))) := ⟨by (with_reducible repeat (first | refine blk_drewN ?_ _ | refine blk_drew ?_ | refine blk_alloc ?_ _)); refine blk_far ?_ NB157_158.out _; (with_reducible repeat (first | refine blk_drewN ?_ _ | refine blk_drew ?_ | refine blk_alloc ?_ _)); exact BK157.out⟩
                        have n3_ : Aside0 ((w57.setCell ⟨gb158, 6, none⟩ (.bool true)).heap[gb158]? = some (.cells #[.int .i64 t166, .int .i64 t172, .int .i64 t178, .int .i64 t184, .int .i64 t190, .bool x159005_14, .bool true] 35 (0, 0))) := ⟨by (with_reducible repeat (first | refine blk_drewN ?_ _ | refine blk_drew ?_ | refine blk_alloc ?_ _)); refine blk_put (cs := #[.int .i64 t166, .int .i64 t172, .int .i64 t178, .int .i64 t184, .int .i64 t190, .bool x159005_14, .bool true]) ?_ 6 _ rfl; (with_reducible repeat (first | refine blk_drewN ?_ _ | refine blk_drew ?_ | refine blk_alloc ?_ _)); exact BK158.out⟩
                        have n4_ : Aside0 (IsS56 w0 (w57.setCell ⟨gb158, 6, none⟩ (.bool true)) g s0_0 t217 t218 t219 t220) := ⟨by repeat (first | (with_reducible first | exact HI0.out | apply IsS56.alloc | apply IsS56.drewN | apply IsS56.drew | apply IsS56.set_1 | apply IsS56.set_2 | apply IsS56.set_3 | apply IsS56.set_4 | refine IsS56.far ?_ NB0_157.out _ | refine IsS56.far ?_ NB0_158.out _) | exact HI0.out)⟩
                        have n5_ : Aside0 (KeepBut w (w57.setCell ⟨gb158, 6, none⟩ (.bool true)) g none) := ⟨by repeat (first | (with_reducible first | exact HK.out | apply KeepBut.set_ | apply keep_drewN | apply keep_drew | apply keep_alloc | refine keep_far ?_ GW157.out _ | refine keep_far ?_ GW158.out _) | exact HK.out)⟩
                        have n6_ : Aside0 (Below w0.heap.size w0 (w57.setCell ⟨gb158, 6, none⟩ (.bool true))) := ⟨by repeat (first | (with_reducible first | exact HB.out | apply below_alloc | apply pw_below_drewN | apply below_drew1 | refine below_set ?_ (IsS56.ge HI0.out) | refine below_set ?_ GE157.out | refine below_set ?_ GE158.out) | exact HB.out)⟩
                        (try clear HO206)
                        (try clear HO215)
                        (try clear BK157)
                        (try clear BK158)
                        (try clear HI0)
                        (try clear HK)
                        (try clear HB)
                        generalize (w57.setCell ⟨gb158, 6, none⟩ (.bool true)) = w59 at n0_ n1_ n2_ n3_ n4_ n5_ n6_ ⊢
                        have HO206 := n0_
                        have HO215 := n1_
                        have BK157 := n2_
                        have BK158 := n3_
                        have HI0 := n4_
                        have HK := n5_
                        have HB := n6_
                        clear n0_ n1_ n2_ n3_ n4_ n5_ n6_
                        have n0_ := Aside0.mk (Kd.R_drew HO206.out)
                        have n1_ := Aside0.mk (Kd.R_drew HO215.out)
                        have n2_ := Aside0.mk (blk_drew BK157.out)
                        have n3_ := Aside0.mk (blk_drew BK158.out)
                        have n4_ := Aside0.mk (IsS56.drew HI0.out)
                        have n5_ := Aside0.mk (keep_drew HK.out)
                        have n6_ := Aside0.mk (below_drew1 HB.out)
                        clear HO206
                        clear HO215
                        clear BK157
                        clear BK158
                        clear HI0
                        clear HK
                        clear HB
                        have HO206 := n0_
                        have HO215 := n1_
                        have BK157 := n2_
                        have BK158 := n3_
                        have HI0 := n4_
                        have HK := n5_
                        have HB := n6_
                        clear n0_ n1_ n2_ n3_ n4_ n5_ n6_
                        refine start_ (n := 4) (S := fun w' => w'.cell? ⟨gb158, 0, none⟩ = some (.int .i64 t166) ∧ w'.cell? ⟨gb158, 1, none⟩ = some (.int .i64 t172) ∧ w'.cell? ⟨gb158, 2, none⟩ = some (.int .i64 t178) ∧ w'.cell? ⟨gb158, 3, none⟩ = some (.int .i64 t184) ∧ w'.cell? ⟨gb158, 4, none⟩ = some (.int .i64 t190) ∧ w'.cell? ⟨gb158, 5, none⟩ = some (.bool x159005_14) ∧ w'.cell? ⟨gb158, 6, none⟩ = some (.bool true)) (ds := []) #[false, false, false, false] (by kernel_rfl) rfl rfl ⟨(blk_cell BK158.out 0).trans rfl, (blk_cell BK158.out 1).trans rfl, (blk_cell BK158.out 2).trans rfl, (blk_cell BK158.out 3).trans rfl, (blk_cell BK158.out 4).trans rfl, (blk_cell BK158.out 5).trans rfl, (blk_cell BK158.out 6).trans rfl⟩ (fun hHeld => ?_)
                        generalize w59.drew = w60 at HO206 HO215 BK157 BK158 HI0 HK HB hHeld ⊢
                        refine pure_ (i := 0) (N := some 74) (v := ?_) (a' := ?_) #[true, false, false, false] rfl rfl (by kernel_rfl) (fun _ _ _ h => h) (Or.inl ⟨by rfl, ?_⟩) ?_ ?_
                        rotate_left
                        · intro w'
                          go_simp
                          with_reducible rfl
                        rotate_left
                        · simp only [Act.put, List.setIfInBounds_toArray, List.set_cons_zero, List.set_cons_succ, i64_w, i32_w]
                          rfl
                        refine pure_ (i := 2) (N := some 4) (v := ?_) (a' := ?_) #[true, false, true, false] rfl rfl (by kernel_rfl) (fun _ _ _ h => h) (Or.inl ⟨by rfl, ?_⟩) ?_ ?_
                        rotate_left
                        · intro w'
                          go_simp
                          with_reducible rfl
                        rotate_left
                        · simp only [Act.put, List.setIfInBounds_toArray, List.set_cons_zero, List.set_cons_succ, i64_w, i32_w]
                          rfl
                        refine take_ (i := 1) (N := some 75) (v := ?_) (a' := ?_) #[true, true, true, false] rfl rfl (by kernel_rfl) (fun _ _ _ h => h) (Or.inl ⟨by rfl, ?_⟩) hHeld ?_ ?_
                        rotate_left
                        · rintro w' ⟨s0, s1, s2, s3, s4, s5, s6⟩
                          go_simp
                          with_reducible rfl
                        rotate_left
                        · simp only [Act.put, List.setIfInBounds_toArray, List.set_cons_zero, List.set_cons_succ, i64_w, i32_w]
                          rfl
                        refine one_ (i := 3) (N := none) #[true, true, true, true] rfl rfl (by kernel_rfl) (by decide) (fun K hK => ?_)
                        have hs61 : w60.cell? ⟨gb157, 0, none⟩ = some (.int .i64 0) := (blk_cell BK157.out 0).trans rfl
                        have hfs61 := blk_frozen BK157.out 0
                        have hns61_1 := NB158_157.out
                        have hms61_1 := NB157_158.out
                        have hs62 : w60.cell? ⟨gb157, 1, none⟩ = some (.int .i64 0) := (blk_cell BK157.out 1).trans rfl
                        have hfs62 := blk_frozen BK157.out 1
                        have hns62_1 := NB158_157.out
                        have hms62_1 := NB157_158.out
                        have hs63 : w60.cell? ⟨gb157, 2, none⟩ = some (.int .i64 0) := (blk_cell BK157.out 2).trans rfl
                        have hfs63 := blk_frozen BK157.out 2
                        have hns63_1 := NB158_157.out
                        have hms63_1 := NB157_158.out
                        have hs64 : w60.cell? ⟨gb157, 3, none⟩ = some (.int .i64 0) := (blk_cell BK157.out 3).trans rfl
                        have hfs64 := blk_frozen BK157.out 3
                        have hns64_1 := NB158_157.out
                        have hms64_1 := NB157_158.out
                        have hs65 : w60.cell? ⟨gb157, 4, none⟩ = some (.int .i64 0) := (blk_cell BK157.out 4).trans rfl
                        have hfs65 := blk_frozen BK157.out 4
                        have hns65_1 := NB158_157.out
                        have hms65_1 := NB157_158.out
                        have hs66 : w60.cell? ⟨gb157, 5, none⟩ = some (.bool false) := (blk_cell BK157.out 5).trans rfl
                        have hfs66 := blk_frozen BK157.out 5
                        have hns66_1 := NB158_157.out
                        have hms66_1 := NB157_158.out
                        have hs67 : w60.cell? ⟨gb157, 6, none⟩ = some (.bool false) := (blk_cell BK157.out 6).trans rfl
                        have hfs67 := blk_frozen BK157.out 6
                        have hns67_1 := NB158_157.out
                        have hms67_1 := NB157_158.out
                        refine skip_ (w1 := ?_) (by rfl) rfl ?_ ?_
                        rotate_left
                        · go_simp
                          rfl
                        refine hK.out _ _ ⟨((cell_far (p := ⟨gb157, _, none⟩) NB158_157.out _).trans (((cell_far (p := ⟨gb157, _, none⟩) NB158_157.out _).trans (((cell_far (p := ⟨gb157, _, none⟩) NB158_157.out _).trans (((cell_far (p := ⟨gb157, _, none⟩) NB158_157.out _).trans (((cell_far (p := ⟨gb157, _, none⟩) NB158_157.out _).trans (((cell_far (p := ⟨gb157, _, none⟩) NB158_157.out _).trans (((cell_far (p := ⟨gb157, _, none⟩) NB158_157.out _).trans (hHeld.1)))))))))))))), ((cell_far (p := ⟨gb157, _, none⟩) NB158_157.out _).trans (((cell_far (p := ⟨gb157, _, none⟩) NB158_157.out _).trans (((cell_far (p := ⟨gb157, _, none⟩) NB158_157.out _).trans (((cell_far (p := ⟨gb157, _, none⟩) NB158_157.out _).trans (((cell_far (p := ⟨gb157, _, none⟩) NB158_157.out _).trans (((cell_far (p := ⟨gb157, _, none⟩) NB158_157.out _).trans (((cell_far (p := ⟨gb157, _, none⟩) NB158_157.out _).trans (hHeld.2.1)))))))))))))), ((cell_far (p := ⟨gb157, _, none⟩) NB158_157.out _).trans (((cell_far (p := ⟨gb157, _, none⟩) NB158_157.out _).trans (((cell_far (p := ⟨gb157, _, none⟩) NB158_157.out _).trans (((cell_far (p := ⟨gb157, _, none⟩) NB158_157.out _).trans (((cell_far (p := ⟨gb157, _, none⟩) NB158_157.out _).trans (((cell_far (p := ⟨gb157, _, none⟩) NB158_157.out _).trans (((cell_far (p := ⟨gb157, _, none⟩) NB158_157.out _).trans (hHeld.2.2.1)))))))))))))), ((cell_far (p := ⟨gb157, _, none⟩) NB158_157.out _).trans (((cell_far (p := ⟨gb157, _, none⟩) NB158_157.out _).trans (((cell_far (p := ⟨gb157, _, none⟩) NB158_157.out _).trans (((cell_far (p := ⟨gb157, _, none⟩) NB158_157.out _).trans (((cell_far (p := ⟨gb157, _, none⟩) NB158_157.out _).trans (((cell_far (p := ⟨gb157, _, none⟩) NB158_157.out _).trans (((cell_far (p := ⟨gb157, _, none⟩) NB158_157.out _).trans (hHeld.2.2.2.1)))))))))))))), ((cell_far (p := ⟨gb157, _, none⟩) NB158_157.out _).trans (((cell_far (p := ⟨gb157, _, none⟩) NB158_157.out _).trans (((cell_far (p := ⟨gb157, _, none⟩) NB158_157.out _).trans (((cell_far (p := ⟨gb157, _, none⟩) NB158_157.out _).trans (((cell_far (p := ⟨gb157, _, none⟩) NB158_157.out _).trans (((cell_far (p := ⟨gb157, _, none⟩) NB158_157.out _).trans (((cell_far (p := ⟨gb157, _, none⟩) NB158_157.out _).trans (hHeld.2.2.2.2.1)))))))))))))), ((cell_far (p := ⟨gb157, _, none⟩) NB158_157.out _).trans (((cell_far (p := ⟨gb157, _, none⟩) NB158_157.out _).trans (((cell_far (p := ⟨gb157, _, none⟩) NB158_157.out _).trans (((cell_far (p := ⟨gb157, _, none⟩) NB158_157.out _).trans (((cell_far (p := ⟨gb157, _, none⟩) NB158_157.out _).trans (((cell_far (p := ⟨gb157, _, none⟩) NB158_157.out _).trans (((cell_far (p := ⟨gb157, _, none⟩) NB158_157.out _).trans (hHeld.2.2.2.2.2.1)))))))))))))), ((cell_far (p := ⟨gb157, _, none⟩) NB158_157.out _).trans (((cell_far (p := ⟨gb157, _, none⟩) NB158_157.out _).trans (((cell_far (p := ⟨gb157, _, none⟩) NB158_157.out _).trans (((cell_far (p := ⟨gb157, _, none⟩) NB158_157.out _).trans (((cell_far (p := ⟨gb157, _, none⟩) NB158_157.out _).trans (((cell_far (p := ⟨gb157, _, none⟩) NB158_157.out _).trans (((cell_far (p := ⟨gb157, _, none⟩) NB158_157.out _).trans (hHeld.2.2.2.2.2.2))))))))))))))⟩ (fun hHeld => ?_)
                        clear hK K
                        refine done_ (by kernel_rfl) ?_
                        try go_wp2
                        refine bodyPost_ret (results_tc rfl _ _ gb157 35 #[.int .i64 t166, .int .i64 t172, .int .i64 t178, .int .i64 t184, .int .i64 t190, .bool x159005_14, .bool true] (0, 0) _ rfl (by (with_reducible repeat (first | refine blk_drewN ?_ _ | refine blk_drew ?_ | refine blk_alloc ?_ _)); refine blk_put (cs := #[.int .i64 t166, .int .i64 t172, .int .i64 t178, .int .i64 t184, .int .i64 t190, .bool x159005_14, .bool false]) ?_ 6 _ rfl; (with_reducible repeat (first | refine blk_drewN ?_ _ | refine blk_drew ?_ | refine blk_alloc ?_ _)); refine blk_put (cs := #[.int .i64 t166, .int .i64 t172, .int .i64 t178, .int .i64 t184, .int .i64 t190, .bool false, .bool false]) ?_ 5 _ rfl; (with_reducible repeat (first | refine blk_drewN ?_ _ | refine blk_drew ?_ | refine blk_alloc ?_ _)); refine blk_put (cs := #[.int .i64 t166, .int .i64 t172, .int .i64 t178, .int .i64 t184, .int .i64 0, .bool false, .bool false]) ?_ 4 _ rfl; (with_reducible repeat (first | refine blk_drewN ?_ _ | refine blk_drew ?_ | refine blk_alloc ?_ _)); refine blk_put (cs := #[.int .i64 t166, .int .i64 t172, .int .i64 t178, .int .i64 0, .int .i64 0, .bool false, .bool false]) ?_ 3 _ rfl; (with_reducible repeat (first | refine blk_drewN ?_ _ | refine blk_drew ?_ | refine blk_alloc ?_ _)); refine blk_put (cs := #[.int .i64 t166, .int .i64 t172, .int .i64 0, .int .i64 0, .int .i64 0, .bool false, .bool false]) ?_ 2 _ rfl; (with_reducible repeat (first | refine blk_drewN ?_ _ | refine blk_drew ?_ | refine blk_alloc ?_ _)); refine blk_put (cs := #[.int .i64 t166, .int .i64 0, .int .i64 0, .int .i64 0, .int .i64 0, .bool false, .bool false]) ?_ 1 _ rfl; (with_reducible repeat (first | refine blk_drewN ?_ _ | refine blk_drew ?_ | refine blk_alloc ?_ _)); refine blk_put (cs := #[.int .i64 0, .int .i64 0, .int .i64 0, .int .i64 0, .int .i64 0, .bool false, .bool false]) ?_ 0 _ rfl; (with_reducible repeat (first | refine blk_drewN ?_ _ | refine blk_drew ?_ | refine blk_alloc ?_ _)); exact BK157.out) Tryd.underlying35 rfl (by kernel_rfl)) rfl ?_
                        exact ⟨by first | rfl | (simp [errW_none, errW_some] <;> rfl) | (simp [*, errW_none, errW_some] <;> rfl), by repeat (first | (with_reducible first | exact HI0.out | apply IsS56.alloc | apply IsS56.drewN | apply IsS56.drew | apply IsS56.set_1 | apply IsS56.set_2 | apply IsS56.set_3 | apply IsS56.set_4 | refine IsS56.far ?_ NB0_157.out _ | refine IsS56.far ?_ NB0_158.out _) | exact HI0.out), by repeat (first | (with_reducible first | exact HB.out | apply below_alloc | apply pw_below_drewN | apply below_drew1 | refine below_set ?_ (IsS56.ge HI0.out) | refine below_set ?_ GE157.out | refine below_set ?_ GE158.out) | exact HB.out), by repeat (first | (with_reducible first | exact HK.out | apply KeepBut.set_ | apply keep_drewN | apply keep_drew | apply keep_alloc | refine keep_far ?_ GW157.out _ | refine keep_far ?_ GW158.out _) | exact HK.out)⟩
                      · rw [if_neg c45] at H
                        exact absurd H (by simp)
                    · replace c43 := Bool.eq_false_iff.mpr c43
                      subst c43
                      have H1 : (if 7 < (l1.length : Int) then ((chicaneref36_B_One.f kj14 s0_0 x1001_14 x1002_14 x1003_14 x1004_14 (rdOf ByteArray.empty l1 7) (([(⟨#[114, 101, 115, 101, 116]⟩ : ByteArray)] : List ByteArray))).bind fun bt225 => (some (t160, t166, t172, t178, t184, t190, x159005_14, true, bt225.2.1, bt225.2.2.1, bt225.2.2.2.1, bt225.2.2.2.2))) else (none)) = some (r1, r2, r3, r4, r5, r6, r7, r8, r9, r10, r11, r12) := by rw [if_neg (show ¬ (false = true) by decide)] at H; exact H
                      clear H
                      have H := H1
                      clear H1
                      by_cases c68 : 7 < (l1.length : Int)
                      · rw [if_pos c68] at H
                        have c68b0 : decide (7 < (l1.length : Int)) = true := decide_eq_true c68
                        have c68b1 : decide (7 < l1.length) = true := decide_eq_true (by omega)
                        clear c68
                        obtain ⟨y222, hy222⟩ : ∃ y_ : List ByteArray, y_ = (([(⟨#[114, 101, 115, 101, 116]⟩ : ByteArray)] : List ByteArray)) := ⟨_, rfl⟩
                        replace H : ((chicaneref36_B_One.f kj14 s0_0 x1001_14 x1002_14 x1003_14 x1004_14 (rdOf ByteArray.empty l1 7) y222).bind fun bt225 => (some (t160, t166, t172, t178, t184, t190, x159005_14, true, bt225.2.1, bt225.2.2.1, bt225.2.2.2.1, bt225.2.2.2.2))) = some (r1, r2, r3, r4, r5, r6, r7, r8, r9, r10, r11, r12) := by first | (rw [hy222]; with_reducible exact H) | (have H2_ := (Option.bind_some _ _).symm.trans H; rw [hy222]; with_reducible exact H2_) | (have H2_ := (Option.bind_some _ _).symm.trans H; with_reducible exact H2_) | with_reducible exact H | (rw [hy222]; exact H) | exact H
                        have Ny222 := Aside0.mk hy222
                        clear hy222
                        replace H := Option.bind_eq_some_iff.mp H
                        obtain ⟨⟨t225, t226, t227, t228, t229⟩, A690, H⟩ := H
                        replace H : (some (t160, t166, t172, t178, t184, t190, x159005_14, true, t226, t227, t228, t229)) = some (r1, r2, r3, r4, r5, r6, r7, r8, r9, r10, r11, r12) := H
                        have A69 := Aside0.mk A690
                        clear A690
                        simp only [Option.some.injEq, Prod.mk.injEq] at H
                        obtain ⟨rfl, rfl, rfl, rfl, rfl, rfl, rfl, rfl, rfl, rfl, rfl, rfl⟩ := H
                        have hnb70 := NB158_157.out
                        have hnc70 := NB157_158.out
                        have hnb71 := NB158_0.out
                        have hnc71 := NB0_158.out
                        have hcz72_0 : wc.cell? ⟨gb158, 0, none⟩ = some (.int .i64 t166) := (blk_cell BK158.out 0).trans rfl
                        have hcz72_1 : wc.cell? ⟨gb158, 1, none⟩ = some (.int .i64 t172) := (blk_cell BK158.out 1).trans rfl
                        have hcz72_2 : wc.cell? ⟨gb158, 2, none⟩ = some (.int .i64 t178) := (blk_cell BK158.out 2).trans rfl
                        have hcz72_3 : wc.cell? ⟨gb158, 3, none⟩ = some (.int .i64 t184) := (blk_cell BK158.out 3).trans rfl
                        have hcz72_4 : wc.cell? ⟨gb158, 4, none⟩ = some (.int .i64 t190) := (blk_cell BK158.out 4).trans rfl
                        have hcz72_5 : wc.cell? ⟨gb158, 5, none⟩ = some (.bool x159005_14) := (blk_cell BK158.out 5).trans rfl
                        have hcz72_6 : wc.cell? ⟨gb158, 6, none⟩ = some (.bool false) := (blk_cell BK158.out 6).trans rfl
                        have hfz72_0 := blk_frozen BK158.out 0
                        have hfz72_1 := blk_frozen BK158.out 1
                        have hfz72_2 := blk_frozen BK158.out 2
                        have hfz72_3 := blk_frozen BK158.out 3
                        have hfz72_4 := blk_frozen BK158.out 4
                        have hfz72_5 := blk_frozen BK158.out 5
                        have hfz72_6 := blk_frozen BK158.out 6
                        have p221 : 0 ≤ (7 : Int) := (by omega)
                        have q221 : 7 < (l1.length : Int) := of_decide_eq_true (by first | (with_reducible assumption) | assumption)
                        obtain ⟨ad221, e221, hx221_0⟩ := Kd.at_string HR1.out 7 p221 q221
                        obtain rfl : ad159 = ad221 := (by injection e221)
                        (try simp only [show (7 : Int).toNat = 7 from rfl, Nat.reduceMul, Nat.reduceEqDiff, Go.Addr.add, ↓reduceIte] at hx221_0)
                        have qi221 : (7 < l1.length) = True := eq_true (by omega)
                        (try rw [show ((7 : Int)).toNat = 7 from rfl] at hx221_0)
                        replace hx221_0 := keep_cell HK.out hx221_0 (by first | (rw [add_block]; exact hf1 _ rfl (by omega)) | exact hf1 _ rfl (by omega) | exact hf1 ad159 rfl (by omega))
                        replace p221 := eq_true p221
                        replace q221 := eq_true q221
                        try go_wp2_with (first | ((with_reducible refine gate_dst (N := 71) rfl ?_); refine Kd.R_lit Kd.string _ 9 ?hg (N := 71) ?hd (xs := ([(⟨#[114, 101, 115, 101, 116]⟩ : ByteArray)] : List ByteArray)) (inner := [.string (⟨#[114, 101, 115, 101, 116]⟩ : ByteArray)]) (ok := fun _ => True) (okp := fun _ => True) ?hr ?hp (fun _ hk => hk) trivial (Below.refl _ _) (Nat.le_refl _) (by simp) ?_; (case hd => rfl); (case hg => rfl); (case hr => first | (go_simp; done) | (go_simp; rfl)); (case hp => exact (Reps.one (show Kd.M Kd.string _ _ _ (⟨#[114, 101, 115, 101, 116]⟩ : ByteArray) [.string (⟨#[114, 101, 115, 101, 116]⟩ : ByteArray)] from rfl) (Reps.none _ _))); intro v223 w73 ho74 hb hg_ hnew_; clear hg_ hnew_; (first | rw [← Ny222.out] at ho74 | (simp only [Int.reduceToNat] at ho74; rw [← Ny222.out] at ho74)); have n0_ := Aside0.mk (Kd.R_lower ho74 (keep_size (w := w) (g := g) (row := none) (by repeat (first | (with_reducible first | exact HK.out | apply KeepBut.set_ | apply keep_drewN | apply keep_drew | apply keep_alloc | refine keep_far ?_ GW157.out _ | refine keep_far ?_ GW158.out _) | exact HK.out)))); have n1_ := Aside0.mk (blk_below (g := gb157) (o := .cells #[.int .i64 0, .int .i64 0, .int .i64 0, .int .i64 0, .int .i64 0, .bool false, .bool false] 35 (0, 0)) (by (with_reducible repeat (first | refine blk_drewN ?_ _ | refine blk_drew ?_ | refine blk_alloc ?_ _)); exact BK157.out) hb); have n2_ := Aside0.mk (blk_below (g := gb158) (o := .cells #[.int .i64 t166, .int .i64 t172, .int .i64 t178, .int .i64 t184, .int .i64 t190, .bool x159005_14, .bool false] 35 (0, 0)) (by (with_reducible repeat (first | refine blk_drewN ?_ _ | refine blk_drew ?_ | refine blk_alloc ?_ _)); exact BK158.out) hb); have n3_ := Aside0.mk (IsS56.below (by repeat (first | (with_reducible first | exact HI0.out | apply IsS56.alloc | apply IsS56.drewN | apply IsS56.drew | apply IsS56.set_1 | apply IsS56.set_2 | apply IsS56.set_3 | apply IsS56.set_4 | refine IsS56.far ?_ NB0_157.out _ | refine IsS56.far ?_ NB0_158.out _) | exact HI0.out)) hb); have n4_ := Aside0.mk (KeepBut.trans (by repeat (first | (with_reducible first | exact HK.out | apply KeepBut.set_ | apply keep_drewN | apply keep_drew | apply keep_alloc | refine keep_far ?_ GW157.out _ | refine keep_far ?_ GW158.out _) | exact HK.out)) (KeepBut.of_below hb g none) (.inl rfl)); have n5_ := Aside0.mk (below_step (by repeat (first | (with_reducible first | exact HB.out | apply below_alloc | apply pw_below_drewN | apply below_drew1 | refine below_set ?_ (IsS56.ge HI0.out) | refine below_set ?_ GE157.out | refine below_set ?_ GE158.out) | exact HB.out)) hb); clear BK157; clear BK158; clear HI0; clear HK; clear HB; have HO224 := n0_; have BK157 := n1_; have BK158 := n2_; have HI0 := n3_; have HK := n4_; have HB := n5_; clear n0_ n1_ n2_ n3_ n4_ n5_; clear hb ho74; obtain ⟨Ao75, co75, eo75⟩ := Kd.R_slice HO224.out; subst eo75) | ((with_reducible refine gate_callee (f := 79) rfl ?_); refine goesL_ (some 72) rfl rfl Tryd.func79 (by kernel_rfl) rfl #[.pointer (some ⟨g, 0, none⟩), .string (rdOf ByteArray.empty l1 7), .slice Ao75 y222.length co75] rfl (by (try simp only [List.map_toArray, List.map_cons, List.map_nil]); first | done | rfl | (simp only [List.length_drop, List.length_take]; rfl)) ?_; (with_reducible refine (chicaneref36_B_One.calls kj14 g s0_0 x1001_14 x1002_14 x1003_14 x1004_14 (rdOf ByteArray.empty l1 7) _ _ y222 t225 t226 t227 t228 t229 w0 _ ?side1 ?side2 ?side3 ?side4 ?side5 A69.out).mono ?_); (case side1 => repeat (first | (with_reducible first | exact HI0.out | apply IsS56.alloc | apply IsS56.drewN | apply IsS56.drew | apply IsS56.set_1 | apply IsS56.set_2 | apply IsS56.set_3 | apply IsS56.set_4 | refine IsS56.far ?_ NB0_157.out _ | refine IsS56.far ?_ NB0_158.out _) | exact HI0.out)); (case side2 => repeat (first | (with_reducible first | exact HB.out | apply below_alloc | apply pw_below_drewN | apply below_drew1 | refine below_set ?_ (IsS56.ge HI0.out) | refine below_set ?_ GE157.out | refine below_set ?_ GE158.out) | exact HB.out)); (case side3 => repeat (first | exact (Kd.R_reads' HO224.out).2.2 | (with_reducible refine Kd.C_alloc ?_ _) | (with_reducible refine Kd.C_drewN ?_ _) | (with_reducible refine Kd.C_drew ?_))); (case side4 => exact (Kd.R_reads' HO224.out).2.1); (case side5 => exact far_slice (IsS56.own_ne HI0.out HO224.out (by decide))); rintro e w76 ⟨rfl, hi, hb, hk⟩; refine ⟨_, rfl, ?_⟩; have n0_ := Aside0.mk (KeepBut.blk hk (g' := gb157) (o := .cells #[.int .i64 0, .int .i64 0, .int .i64 0, .int .i64 0, .int .i64 0, .bool false, .bool false] 35 (0, 0)) (by (with_reducible repeat (first | refine blk_drewN ?_ _ | refine blk_drew ?_ | refine blk_alloc ?_ _)); exact BK157.out) NB157_0.out (by simp)); have n1_ := Aside0.mk (KeepBut.blk hk (g' := gb158) (o := .cells #[.int .i64 t166, .int .i64 t172, .int .i64 t178, .int .i64 t184, .int .i64 t190, .bool x159005_14, .bool false] 35 (0, 0)) (by (with_reducible repeat (first | refine blk_drewN ?_ _ | refine blk_drew ?_ | refine blk_alloc ?_ _)); exact BK158.out) NB158_0.out (by simp)); have n2_ := Aside0.mk (Kd.R_mono (Kd.R_keep (IsS56.apart (show IsS56 w0 _ g s0_0 x1001_14 x1002_14 x1003_14 x1004_14 from by repeat (first | (with_reducible first | exact HI0.out | apply IsS56.alloc | apply IsS56.drewN | apply IsS56.drew | apply IsS56.set_1 | apply IsS56.set_2 | apply IsS56.set_3 | apply IsS56.set_4 | refine IsS56.far ?_ NB0_157.out _ | refine IsS56.far ?_ NB0_158.out _) | exact HI0.out)) (by (with_reducible repeat (first | apply Kd.R_alloc | apply Kd.R_drewN | apply Kd.R_drew)); exact HO224.out) (by decide)) hk (fun _ h => h.2)) (fun _ h => h.1)); have n3_ := Aside0.mk (KeepBut.trans (by repeat (first | (with_reducible first | exact HK.out | apply KeepBut.set_ | apply keep_drewN | apply keep_drew | apply keep_alloc | refine keep_far ?_ GW157.out _ | refine keep_far ?_ GW158.out _) | exact HK.out)) hk (.inl rfl)); have n4_ := Aside0.mk (hb); have n5_ := Aside0.mk (hi); clear BK157; clear BK158; clear HO224; clear HK; clear HB; clear HI0; have BK157 := n0_; have BK158 := n1_; have HO224 := n2_; have HK := n3_; have HB := n4_; have HI0 := n5_; clear n0_ n1_ n2_ n3_ n4_ n5_; (try clear hb); (try clear hb2); (try clear hk); (try clear hi); have hcz77_0 : w76.cell? ⟨gb158, 0, none⟩ = some (.int .i64 t166) := (blk_cell BK158.out 0).trans rfl; have hcz77_1 : w76.cell? ⟨gb158, 1, none⟩ = some (.int .i64 t172) := (blk_cell BK158.out 1).trans rfl; have hcz77_2 : w76.cell? ⟨gb158, 2, none⟩ = some (.int .i64 t178) := (blk_cell BK158.out 2).trans rfl; have hcz77_3 : w76.cell? ⟨gb158, 3, none⟩ = some (.int .i64 t184) := (blk_cell BK158.out 3).trans rfl; have hcz77_4 : w76.cell? ⟨gb158, 4, none⟩ = some (.int .i64 t190) := (blk_cell BK158.out 4).trans rfl; have hcz77_5 : w76.cell? ⟨gb158, 5, none⟩ = some (.bool x159005_14) := (blk_cell BK158.out 5).trans rfl; have hcz77_6 : w76.cell? ⟨gb158, 6, none⟩ = some (.bool false) := (blk_cell BK158.out 6).trans rfl; have hfz77_0 := blk_frozen BK158.out 0; have hfz77_1 := blk_frozen BK158.out 1; have hfz77_2 := blk_frozen BK158.out 2; have hfz77_3 := blk_frozen BK158.out 3; have hfz77_4 := blk_frozen BK158.out 4; have hfz77_5 := blk_frozen BK158.out 5; have hfz77_6 := blk_frozen BK158.out 6))
                        have n0_ : Aside0 (Kd.R Kd.string 9 (w76.setCell ⟨gb158, 6, none⟩ (.bool true)) w.heap.size (fun _ => True) (.slice Ao75 y222.length co75) y222) := ⟨by (with_reducible repeat (first | apply Kd.R_alloc | apply Kd.R_drewN | apply Kd.R_drew)); exact Kd.R_mono (Kd.R_far (p := ⟨gb158, 6, none⟩) (Kd.R_types HO224.out BK158.out (by decide)) (fun _ hk => hk.2) (.bool true)) (fun _ hk => trivial)⟩
                        have n1_ : Aside0 ((w76.setCell ⟨gb158, 6, none⟩ (.bool true)).heap[gb157]? = some (.cells #[.int .i64 0, .int .i64 0, .int .i64 0, .int .i64 0, .int .i64 0, .bool false, .bool false] 35 (0, 0))) := ⟨by (with_reducible repeat (first | refine blk_drewN ?_ _ | refine blk_drew ?_ | refine blk_alloc ?_ _)); refine blk_far ?_ NB157_158.out _; (with_reducible repeat (first | refine blk_drewN ?_ _ | refine blk_drew ?_ | refine blk_alloc ?_ _)); exact BK157.out⟩
                        have n2_ : Aside0 ((w76.setCell ⟨gb158, 6, none⟩ (.bool true)).heap[gb158]? = some (.cells #[.int .i64 t166, .int .i64 t172, .int .i64 t178, .int .i64 t184, .int .i64 t190, .bool x159005_14, .bool true] 35 (0, 0))) := ⟨by (with_reducible repeat (first | refine blk_drewN ?_ _ | refine blk_drew ?_ | refine blk_alloc ?_ _)); refine blk_put (cs := #[.int .i64 t166, .int .i64 t172, .int .i64 t178, .int .i64 t184, .int .i64 t190, .bool x159005_14, .bool false]) ?_ 6 _ rfl; (with_reducible repeat (first | refine blk_drewN ?_ _ | refine blk_drew ?_ | refine blk_alloc ?_ _)); exact BK158.out⟩
                        have n3_ : Aside0 (IsS56 w0 (w76.setCell ⟨gb158, 6, none⟩ (.bool true)) g s0_0 t226 t227 t228 t229) := ⟨by repeat (first | (with_reducible first | exact HI0.out | apply IsS56.alloc | apply IsS56.drewN | apply IsS56.drew | apply IsS56.set_1 | apply IsS56.set_2 | apply IsS56.set_3 | apply IsS56.set_4 | refine IsS56.far ?_ NB0_157.out _ | refine IsS56.far ?_ NB0_158.out _) | exact HI0.out)⟩
                        have n4_ : Aside0 (KeepBut w (w76.setCell ⟨gb158, 6, none⟩ (.bool true)) g none) := ⟨by repeat (first | (with_reducible first | exact HK.out | apply KeepBut.set_ | apply keep_drewN | apply keep_drew | apply keep_alloc | refine keep_far ?_ GW157.out _ | refine keep_far ?_ GW158.out _) | exact HK.out)⟩
                        have n5_ : Aside0 (Below w0.heap.size w0 (w76.setCell ⟨gb158, 6, none⟩ (.bool true))) := ⟨by repeat (first | (with_reducible first | exact HB.out | apply below_alloc | apply pw_below_drewN | apply below_drew1 | refine below_set ?_ (IsS56.ge HI0.out) | refine below_set ?_ GE157.out | refine below_set ?_ GE158.out) | exact HB.out)⟩
                        (try clear HO224)
                        (try clear BK157)
                        (try clear BK158)
                        (try clear HI0)
                        (try clear HK)
                        (try clear HB)
                        generalize (w76.setCell ⟨gb158, 6, none⟩ (.bool true)) = w78 at n0_ n1_ n2_ n3_ n4_ n5_ ⊢
                        have HO224 := n0_
                        have BK157 := n1_
                        have BK158 := n2_
                        have HI0 := n3_
                        have HK := n4_
                        have HB := n5_
                        clear n0_ n1_ n2_ n3_ n4_ n5_
                        have n0_ := Aside0.mk (Kd.R_drew HO224.out)
                        have n1_ := Aside0.mk (blk_drew BK157.out)
                        have n2_ := Aside0.mk (blk_drew BK158.out)
                        have n3_ := Aside0.mk (IsS56.drew HI0.out)
                        have n4_ := Aside0.mk (keep_drew HK.out)
                        have n5_ := Aside0.mk (below_drew1 HB.out)
                        clear HO224
                        clear BK157
                        clear BK158
                        clear HI0
                        clear HK
                        clear HB
                        have HO224 := n0_
                        have BK157 := n1_
                        have BK158 := n2_
                        have HI0 := n3_
                        have HK := n4_
                        have HB := n5_
                        clear n0_ n1_ n2_ n3_ n4_ n5_
                        refine start_ (n := 4) (S := fun w' => w'.cell? ⟨gb158, 0, none⟩ = some (.int .i64 t166) ∧ w'.cell? ⟨gb158, 1, none⟩ = some (.int .i64 t172) ∧ w'.cell? ⟨gb158, 2, none⟩ = some (.int .i64 t178) ∧ w'.cell? ⟨gb158, 3, none⟩ = some (.int .i64 t184) ∧ w'.cell? ⟨gb158, 4, none⟩ = some (.int .i64 t190) ∧ w'.cell? ⟨gb158, 5, none⟩ = some (.bool x159005_14) ∧ w'.cell? ⟨gb158, 6, none⟩ = some (.bool true)) (ds := []) #[false, false, false, false] (by kernel_rfl) rfl rfl ⟨(blk_cell BK158.out 0).trans rfl, (blk_cell BK158.out 1).trans rfl, (blk_cell BK158.out 2).trans rfl, (blk_cell BK158.out 3).trans rfl, (blk_cell BK158.out 4).trans rfl, (blk_cell BK158.out 5).trans rfl, (blk_cell BK158.out 6).trans rfl⟩ (fun hHeld => ?_)
                        generalize w78.drew = w79 at HO224 BK157 BK158 HI0 HK HB hHeld ⊢
                        refine pure_ (i := 0) (N := some 74) (v := ?_) (a' := ?_) #[true, false, false, false] rfl rfl (by kernel_rfl) (fun _ _ _ h => h) (Or.inl ⟨by rfl, ?_⟩) ?_ ?_
                        rotate_left
                        · intro w'
                          go_simp
                          with_reducible rfl
                        rotate_left
                        · simp only [Act.put, List.setIfInBounds_toArray, List.set_cons_zero, List.set_cons_succ, i64_w, i32_w]
                          rfl
                        refine pure_ (i := 2) (N := some 4) (v := ?_) (a' := ?_) #[true, false, true, false] rfl rfl (by kernel_rfl) (fun _ _ _ h => h) (Or.inl ⟨by rfl, ?_⟩) ?_ ?_
                        rotate_left
                        · intro w'
                          go_simp
                          with_reducible rfl
                        rotate_left
                        · simp only [Act.put, List.setIfInBounds_toArray, List.set_cons_zero, List.set_cons_succ, i64_w, i32_w]
                          rfl
                        refine take_ (i := 1) (N := some 75) (v := ?_) (a' := ?_) #[true, true, true, false] rfl rfl (by kernel_rfl) (fun _ _ _ h => h) (Or.inl ⟨by rfl, ?_⟩) hHeld ?_ ?_
                        rotate_left
                        · rintro w' ⟨s0, s1, s2, s3, s4, s5, s6⟩
                          go_simp
                          with_reducible rfl
                        rotate_left
                        · simp only [Act.put, List.setIfInBounds_toArray, List.set_cons_zero, List.set_cons_succ, i64_w, i32_w]
                          rfl
                        refine one_ (i := 3) (N := none) #[true, true, true, true] rfl rfl (by kernel_rfl) (by decide) (fun K hK => ?_)
                        have hs80 : w79.cell? ⟨gb157, 0, none⟩ = some (.int .i64 0) := (blk_cell BK157.out 0).trans rfl
                        have hfs80 := blk_frozen BK157.out 0
                        have hns80_1 := NB158_157.out
                        have hms80_1 := NB157_158.out
                        have hs81 : w79.cell? ⟨gb157, 1, none⟩ = some (.int .i64 0) := (blk_cell BK157.out 1).trans rfl
                        have hfs81 := blk_frozen BK157.out 1
                        have hns81_1 := NB158_157.out
                        have hms81_1 := NB157_158.out
                        have hs82 : w79.cell? ⟨gb157, 2, none⟩ = some (.int .i64 0) := (blk_cell BK157.out 2).trans rfl
                        have hfs82 := blk_frozen BK157.out 2
                        have hns82_1 := NB158_157.out
                        have hms82_1 := NB157_158.out
                        have hs83 : w79.cell? ⟨gb157, 3, none⟩ = some (.int .i64 0) := (blk_cell BK157.out 3).trans rfl
                        have hfs83 := blk_frozen BK157.out 3
                        have hns83_1 := NB158_157.out
                        have hms83_1 := NB157_158.out
                        have hs84 : w79.cell? ⟨gb157, 4, none⟩ = some (.int .i64 0) := (blk_cell BK157.out 4).trans rfl
                        have hfs84 := blk_frozen BK157.out 4
                        have hns84_1 := NB158_157.out
                        have hms84_1 := NB157_158.out
                        have hs85 : w79.cell? ⟨gb157, 5, none⟩ = some (.bool false) := (blk_cell BK157.out 5).trans rfl
                        have hfs85 := blk_frozen BK157.out 5
                        have hns85_1 := NB158_157.out
                        have hms85_1 := NB157_158.out
                        have hs86 : w79.cell? ⟨gb157, 6, none⟩ = some (.bool false) := (blk_cell BK157.out 6).trans rfl
                        have hfs86 := blk_frozen BK157.out 6
                        have hns86_1 := NB158_157.out
                        have hms86_1 := NB157_158.out
                        refine skip_ (w1 := ?_) (by rfl) rfl ?_ ?_
                        rotate_left
                        · go_simp
                          rfl
                        refine hK.out _ _ ⟨((cell_far (p := ⟨gb157, _, none⟩) NB158_157.out _).trans (((cell_far (p := ⟨gb157, _, none⟩) NB158_157.out _).trans (((cell_far (p := ⟨gb157, _, none⟩) NB158_157.out _).trans (((cell_far (p := ⟨gb157, _, none⟩) NB158_157.out _).trans (((cell_far (p := ⟨gb157, _, none⟩) NB158_157.out _).trans (((cell_far (p := ⟨gb157, _, none⟩) NB158_157.out _).trans (((cell_far (p := ⟨gb157, _, none⟩) NB158_157.out _).trans (hHeld.1)))))))))))))), ((cell_far (p := ⟨gb157, _, none⟩) NB158_157.out _).trans (((cell_far (p := ⟨gb157, _, none⟩) NB158_157.out _).trans (((cell_far (p := ⟨gb157, _, none⟩) NB158_157.out _).trans (((cell_far (p := ⟨gb157, _, none⟩) NB158_157.out _).trans (((cell_far (p := ⟨gb157, _, none⟩) NB158_157.out _).trans (((cell_far (p := ⟨gb157, _, none⟩) NB158_157.out _).trans (((cell_far (p := ⟨gb157, _, none⟩) NB158_157.out _).trans (hHeld.2.1)))))))))))))), ((cell_far (p := ⟨gb157, _, none⟩) NB158_157.out _).trans (((cell_far (p := ⟨gb157, _, none⟩) NB158_157.out _).trans (((cell_far (p := ⟨gb157, _, none⟩) NB158_157.out _).trans (((cell_far (p := ⟨gb157, _, none⟩) NB158_157.out _).trans (((cell_far (p := ⟨gb157, _, none⟩) NB158_157.out _).trans (((cell_far (p := ⟨gb157, _, none⟩) NB158_157.out _).trans (((cell_far (p := ⟨gb157, _, none⟩) NB158_157.out _).trans (hHeld.2.2.1)))))))))))))), ((cell_far (p := ⟨gb157, _, none⟩) NB158_157.out _).trans (((cell_far (p := ⟨gb157, _, none⟩) NB158_157.out _).trans (((cell_far (p := ⟨gb157, _, none⟩) NB158_157.out _).trans (((cell_far (p := ⟨gb157, _, none⟩) NB158_157.out _).trans (((cell_far (p := ⟨gb157, _, none⟩) NB158_157.out _).trans (((cell_far (p := ⟨gb157, _, none⟩) NB158_157.out _).trans (((cell_far (p := ⟨gb157, _, none⟩) NB158_157.out _).trans (hHeld.2.2.2.1)))))))))))))), ((cell_far (p := ⟨gb157, _, none⟩) NB158_157.out _).trans (((cell_far (p := ⟨gb157, _, none⟩) NB158_157.out _).trans (((cell_far (p := ⟨gb157, _, none⟩) NB158_157.out _).trans (((cell_far (p := ⟨gb157, _, none⟩) NB158_157.out _).trans (((cell_far (p := ⟨gb157, _, none⟩) NB158_157.out _).trans (((cell_far (p := ⟨gb157, _, none⟩) NB158_157.out _).trans (((cell_far (p := ⟨gb157, _, none⟩) NB158_157.out _).trans (hHeld.2.2.2.2.1)))))))))))))), ((cell_far (p := ⟨gb157, _, none⟩) NB158_157.out _).trans (((cell_far (p := ⟨gb157, _, none⟩) NB158_157.out _).trans (((cell_far (p := ⟨gb157, _, none⟩) NB158_157.out _).trans (((cell_far (p := ⟨gb157, _, none⟩) NB158_157.out _).trans (((cell_far (p := ⟨gb157, _, none⟩) NB158_157.out _).trans (((cell_far (p := ⟨gb157, _, none⟩) NB158_157.out _).trans (((cell_far (p := ⟨gb157, _, none⟩) NB158_157.out _).trans (hHeld.2.2.2.2.2.1)))))))))))))), ((cell_far (p := ⟨gb157, _, none⟩) NB158_157.out _).trans (((cell_far (p := ⟨gb157, _, none⟩) NB158_157.out _).trans (((cell_far (p := ⟨gb157, _, none⟩) NB158_157.out _).trans (((cell_far (p := ⟨gb157, _, none⟩) NB158_157.out _).trans (((cell_far (p := ⟨gb157, _, none⟩) NB158_157.out _).trans (((cell_far (p := ⟨gb157, _, none⟩) NB158_157.out _).trans (((cell_far (p := ⟨gb157, _, none⟩) NB158_157.out _).trans (hHeld.2.2.2.2.2.2))))))))))))))⟩ (fun hHeld => ?_)
                        clear hK K
                        refine done_ (by kernel_rfl) ?_
                        try go_wp2
                        refine bodyPost_ret (results_tc rfl _ _ gb157 35 #[.int .i64 t166, .int .i64 t172, .int .i64 t178, .int .i64 t184, .int .i64 t190, .bool x159005_14, .bool true] (0, 0) _ rfl (by (with_reducible repeat (first | refine blk_drewN ?_ _ | refine blk_drew ?_ | refine blk_alloc ?_ _)); refine blk_put (cs := #[.int .i64 t166, .int .i64 t172, .int .i64 t178, .int .i64 t184, .int .i64 t190, .bool x159005_14, .bool false]) ?_ 6 _ rfl; (with_reducible repeat (first | refine blk_drewN ?_ _ | refine blk_drew ?_ | refine blk_alloc ?_ _)); refine blk_put (cs := #[.int .i64 t166, .int .i64 t172, .int .i64 t178, .int .i64 t184, .int .i64 t190, .bool false, .bool false]) ?_ 5 _ rfl; (with_reducible repeat (first | refine blk_drewN ?_ _ | refine blk_drew ?_ | refine blk_alloc ?_ _)); refine blk_put (cs := #[.int .i64 t166, .int .i64 t172, .int .i64 t178, .int .i64 t184, .int .i64 0, .bool false, .bool false]) ?_ 4 _ rfl; (with_reducible repeat (first | refine blk_drewN ?_ _ | refine blk_drew ?_ | refine blk_alloc ?_ _)); refine blk_put (cs := #[.int .i64 t166, .int .i64 t172, .int .i64 t178, .int .i64 0, .int .i64 0, .bool false, .bool false]) ?_ 3 _ rfl; (with_reducible repeat (first | refine blk_drewN ?_ _ | refine blk_drew ?_ | refine blk_alloc ?_ _)); refine blk_put (cs := #[.int .i64 t166, .int .i64 t172, .int .i64 0, .int .i64 0, .int .i64 0, .bool false, .bool false]) ?_ 2 _ rfl; (with_reducible repeat (first | refine blk_drewN ?_ _ | refine blk_drew ?_ | refine blk_alloc ?_ _)); refine blk_put (cs := #[.int .i64 t166, .int .i64 0, .int .i64 0, .int .i64 0, .int .i64 0, .bool false, .bool false]) ?_ 1 _ rfl; (with_reducible repeat (first | refine blk_drewN ?_ _ | refine blk_drew ?_ | refine blk_alloc ?_ _)); refine blk_put (cs := #[.int .i64 0, .int .i64 0, .int .i64 0, .int .i64 0, .int .i64 0, .bool false, .bool false]) ?_ 0 _ rfl; (with_reducible repeat (first | refine blk_drewN ?_ _ | refine blk_drew ?_ | refine blk_alloc ?_ _)); exact BK157.out) Tryd.underlying35 rfl (by kernel_rfl)) rfl ?_
                        exact ⟨by first | rfl | (simp [errW_none, errW_some] <;> rfl) | (simp [*, errW_none, errW_some] <;> rfl), by repeat (first | (with_reducible first | exact HI0.out | apply IsS56.alloc | apply IsS56.drewN | apply IsS56.drew | apply IsS56.set_1 | apply IsS56.set_2 | apply IsS56.set_3 | apply IsS56.set_4 | refine IsS56.far ?_ NB0_157.out _ | refine IsS56.far ?_ NB0_158.out _) | exact HI0.out), by repeat (first | (with_reducible first | exact HB.out | apply below_alloc | apply pw_below_drewN | apply below_drew1 | refine below_set ?_ (IsS56.ge HI0.out) | refine below_set ?_ GE157.out | refine below_set ?_ GE158.out) | exact HB.out), by repeat (first | (with_reducible first | exact HK.out | apply KeepBut.set_ | apply keep_drewN | apply keep_drew | apply keep_alloc | refine keep_far ?_ GW157.out _ | refine keep_far ?_ GW158.out _) | exact HK.out)⟩
                      · rw [if_neg c68] at H
                        exact absurd H (by simp)
                  · rw [if_neg c42] at H
                    have c42b0 : decide (7 < (l1.length : Int)) = false := decide_eq_false c42
                    have c42b1 : decide (7 < l1.length) = false := decide_eq_false (by omega)
                    clear c42
                    simp only [Option.some.injEq, Prod.mk.injEq] at H
                    obtain ⟨rfl, rfl, rfl, rfl, rfl, rfl, rfl, rfl, rfl, rfl, rfl, rfl⟩ := H
                    try go_wp2
                    have n0_ := Aside0.mk (blk_drew BK157.out)
                    have n1_ := Aside0.mk (blk_drew BK158.out)
                    have n2_ := Aside0.mk (IsS56.drew HI0.out)
                    have n3_ := Aside0.mk (keep_drew HK.out)
                    have n4_ := Aside0.mk (below_drew1 HB.out)
                    clear BK157
                    clear BK158
                    clear HI0
                    clear HK
                    clear HB
                    have BK157 := n0_
                    have BK158 := n1_
                    have HI0 := n2_
                    have HK := n3_
                    have HB := n4_
                    clear n0_ n1_ n2_ n3_ n4_
                    refine start_ (n := 4) (S := fun w' => w'.cell? ⟨gb158, 0, none⟩ = some (.int .i64 t166) ∧ w'.cell? ⟨gb158, 1, none⟩ = some (.int .i64 t172) ∧ w'.cell? ⟨gb158, 2, none⟩ = some (.int .i64 t178) ∧ w'.cell? ⟨gb158, 3, none⟩ = some (.int .i64 t184) ∧ w'.cell? ⟨gb158, 4, none⟩ = some (.int .i64 t190) ∧ w'.cell? ⟨gb158, 5, none⟩ = some (.bool x159005_14) ∧ w'.cell? ⟨gb158, 6, none⟩ = some (.bool x159006_14)) (ds := []) #[false, false, false, false] (by kernel_rfl) rfl rfl ⟨(blk_cell BK158.out 0).trans rfl, (blk_cell BK158.out 1).trans rfl, (blk_cell BK158.out 2).trans rfl, (blk_cell BK158.out 3).trans rfl, (blk_cell BK158.out 4).trans rfl, (blk_cell BK158.out 5).trans rfl, (blk_cell BK158.out 6).trans rfl⟩ (fun hHeld => ?_)
                    generalize wc.drew = w87 at BK157 BK158 HI0 HK HB hHeld ⊢
                    refine pure_ (i := 0) (N := some 74) (v := ?_) (a' := ?_) #[true, false, false, false] rfl rfl (by kernel_rfl) (fun _ _ _ h => h) (Or.inl ⟨by rfl, ?_⟩) ?_ ?_
                    rotate_left
                    · intro w'
                      go_simp
                      with_reducible rfl
                    rotate_left
                    · simp only [Act.put, List.setIfInBounds_toArray, List.set_cons_zero, List.set_cons_succ, i64_w, i32_w]
                      rfl
                    refine pure_ (i := 2) (N := some 4) (v := ?_) (a' := ?_) #[true, false, true, false] rfl rfl (by kernel_rfl) (fun _ _ _ h => h) (Or.inl ⟨by rfl, ?_⟩) ?_ ?_
                    rotate_left
                    · intro w'
                      go_simp
                      with_reducible rfl
                    rotate_left
                    · simp only [Act.put, List.setIfInBounds_toArray, List.set_cons_zero, List.set_cons_succ, i64_w, i32_w]
                      rfl
                    refine take_ (i := 1) (N := some 75) (v := ?_) (a' := ?_) #[true, true, true, false] rfl rfl (by kernel_rfl) (fun _ _ _ h => h) (Or.inl ⟨by rfl, ?_⟩) hHeld ?_ ?_
                    rotate_left
                    · rintro w' ⟨s0, s1, s2, s3, s4, s5, s6⟩
                      go_simp
                      with_reducible rfl
                    rotate_left
                    · simp only [Act.put, List.setIfInBounds_toArray, List.set_cons_zero, List.set_cons_succ, i64_w, i32_w]
                      rfl
                    refine one_ (i := 3) (N := none) #[true, true, true, true] rfl rfl (by kernel_rfl) (by decide) (fun K hK => ?_)
                    have hs88 : w87.cell? ⟨gb157, 0, none⟩ = some (.int .i64 0) := (blk_cell BK157.out 0).trans rfl
                    have hfs88 := blk_frozen BK157.out 0
                    have hns88_1 := NB158_157.out
                    have hms88_1 := NB157_158.out
                    have hs89 : w87.cell? ⟨gb157, 1, none⟩ = some (.int .i64 0) := (blk_cell BK157.out 1).trans rfl
                    have hfs89 := blk_frozen BK157.out 1
                    have hns89_1 := NB158_157.out
                    have hms89_1 := NB157_158.out
                    have hs90 : w87.cell? ⟨gb157, 2, none⟩ = some (.int .i64 0) := (blk_cell BK157.out 2).trans rfl
                    have hfs90 := blk_frozen BK157.out 2
                    have hns90_1 := NB158_157.out
                    have hms90_1 := NB157_158.out
                    have hs91 : w87.cell? ⟨gb157, 3, none⟩ = some (.int .i64 0) := (blk_cell BK157.out 3).trans rfl
                    have hfs91 := blk_frozen BK157.out 3
                    have hns91_1 := NB158_157.out
                    have hms91_1 := NB157_158.out
                    have hs92 : w87.cell? ⟨gb157, 4, none⟩ = some (.int .i64 0) := (blk_cell BK157.out 4).trans rfl
                    have hfs92 := blk_frozen BK157.out 4
                    have hns92_1 := NB158_157.out
                    have hms92_1 := NB157_158.out
                    have hs93 : w87.cell? ⟨gb157, 5, none⟩ = some (.bool false) := (blk_cell BK157.out 5).trans rfl
                    have hfs93 := blk_frozen BK157.out 5
                    have hns93_1 := NB158_157.out
                    have hms93_1 := NB157_158.out
                    have hs94 : w87.cell? ⟨gb157, 6, none⟩ = some (.bool false) := (blk_cell BK157.out 6).trans rfl
                    have hfs94 := blk_frozen BK157.out 6
                    have hns94_1 := NB158_157.out
                    have hms94_1 := NB157_158.out
                    refine skip_ (w1 := ?_) (by rfl) rfl ?_ ?_
                    rotate_left
                    · go_simp
                      rfl
                    refine hK.out _ _ ⟨((cell_far (p := ⟨gb157, _, none⟩) NB158_157.out _).trans (((cell_far (p := ⟨gb157, _, none⟩) NB158_157.out _).trans (((cell_far (p := ⟨gb157, _, none⟩) NB158_157.out _).trans (((cell_far (p := ⟨gb157, _, none⟩) NB158_157.out _).trans (((cell_far (p := ⟨gb157, _, none⟩) NB158_157.out _).trans (((cell_far (p := ⟨gb157, _, none⟩) NB158_157.out _).trans (((cell_far (p := ⟨gb157, _, none⟩) NB158_157.out _).trans (hHeld.1)))))))))))))), ((cell_far (p := ⟨gb157, _, none⟩) NB158_157.out _).trans (((cell_far (p := ⟨gb157, _, none⟩) NB158_157.out _).trans (((cell_far (p := ⟨gb157, _, none⟩) NB158_157.out _).trans (((cell_far (p := ⟨gb157, _, none⟩) NB158_157.out _).trans (((cell_far (p := ⟨gb157, _, none⟩) NB158_157.out _).trans (((cell_far (p := ⟨gb157, _, none⟩) NB158_157.out _).trans (((cell_far (p := ⟨gb157, _, none⟩) NB158_157.out _).trans (hHeld.2.1)))))))))))))), ((cell_far (p := ⟨gb157, _, none⟩) NB158_157.out _).trans (((cell_far (p := ⟨gb157, _, none⟩) NB158_157.out _).trans (((cell_far (p := ⟨gb157, _, none⟩) NB158_157.out _).trans (((cell_far (p := ⟨gb157, _, none⟩) NB158_157.out _).trans (((cell_far (p := ⟨gb157, _, none⟩) NB158_157.out _).trans (((cell_far (p := ⟨gb157, _, none⟩) NB158_157.out _).trans (((cell_far (p := ⟨gb157, _, none⟩) NB158_157.out _).trans (hHeld.2.2.1)))))))))))))), ((cell_far (p := ⟨gb157, _, none⟩) NB158_157.out _).trans (((cell_far (p := ⟨gb157, _, none⟩) NB158_157.out _).trans (((cell_far (p := ⟨gb157, _, none⟩) NB158_157.out _).trans (((cell_far (p := ⟨gb157, _, none⟩) NB158_157.out _).trans (((cell_far (p := ⟨gb157, _, none⟩) NB158_157.out _).trans (((cell_far (p := ⟨gb157, _, none⟩) NB158_157.out _).trans (((cell_far (p := ⟨gb157, _, none⟩) NB158_157.out _).trans (hHeld.2.2.2.1)))))))))))))), ((cell_far (p := ⟨gb157, _, none⟩) NB158_157.out _).trans (((cell_far (p := ⟨gb157, _, none⟩) NB158_157.out _).trans (((cell_far (p := ⟨gb157, _, none⟩) NB158_157.out _).trans (((cell_far (p := ⟨gb157, _, none⟩) NB158_157.out _).trans (((cell_far (p := ⟨gb157, _, none⟩) NB158_157.out _).trans (((cell_far (p := ⟨gb157, _, none⟩) NB158_157.out _).trans (((cell_far (p := ⟨gb157, _, none⟩) NB158_157.out _).trans (hHeld.2.2.2.2.1)))))))))))))), ((cell_far (p := ⟨gb157, _, none⟩) NB158_157.out _).trans (((cell_far (p := ⟨gb157, _, none⟩) NB158_157.out _).trans (((cell_far (p := ⟨gb157, _, none⟩) NB158_157.out _).trans (((cell_far (p := ⟨gb157, _, none⟩) NB158_157.out _).trans (((cell_far (p := ⟨gb157, _, none⟩) NB158_157.out _).trans (((cell_far (p := ⟨gb157, _, none⟩) NB158_157.out _).trans (((cell_far (p := ⟨gb157, _, none⟩) NB158_157.out _).trans (hHeld.2.2.2.2.2.1)))))))))))))), ((cell_far (p := ⟨gb157, _, none⟩) NB158_157.out _).trans (((cell_far (p := ⟨gb157, _, none⟩) NB158_157.out _).trans (((cell_far (p := ⟨gb157, _, none⟩) NB158_157.out _).trans (((cell_far (p := ⟨gb157, _, none⟩) NB158_157.out _).trans (((cell_far (p := ⟨gb157, _, none⟩) NB158_157.out _).trans (((cell_far (p := ⟨gb157, _, none⟩) NB158_157.out _).trans (((cell_far (p := ⟨gb157, _, none⟩) NB158_157.out _).trans (hHeld.2.2.2.2.2.2))))))))))))))⟩ (fun hHeld => ?_)
                    clear hK K
                    refine done_ (by kernel_rfl) ?_
                    try go_wp2
                    refine bodyPost_ret (results_tc rfl _ _ gb157 35 #[.int .i64 t166, .int .i64 t172, .int .i64 t178, .int .i64 t184, .int .i64 t190, .bool x159005_14, .bool x159006_14] (0, 0) _ rfl (by (with_reducible repeat (first | refine blk_drewN ?_ _ | refine blk_drew ?_ | refine blk_alloc ?_ _)); refine blk_put (cs := #[.int .i64 t166, .int .i64 t172, .int .i64 t178, .int .i64 t184, .int .i64 t190, .bool x159005_14, .bool false]) ?_ 6 _ rfl; (with_reducible repeat (first | refine blk_drewN ?_ _ | refine blk_drew ?_ | refine blk_alloc ?_ _)); refine blk_put (cs := #[.int .i64 t166, .int .i64 t172, .int .i64 t178, .int .i64 t184, .int .i64 t190, .bool false, .bool false]) ?_ 5 _ rfl; (with_reducible repeat (first | refine blk_drewN ?_ _ | refine blk_drew ?_ | refine blk_alloc ?_ _)); refine blk_put (cs := #[.int .i64 t166, .int .i64 t172, .int .i64 t178, .int .i64 t184, .int .i64 0, .bool false, .bool false]) ?_ 4 _ rfl; (with_reducible repeat (first | refine blk_drewN ?_ _ | refine blk_drew ?_ | refine blk_alloc ?_ _)); refine blk_put (cs := #[.int .i64 t166, .int .i64 t172, .int .i64 t178, .int .i64 0, .int .i64 0, .bool false, .bool false]) ?_ 3 _ rfl; (with_reducible repeat (first | refine blk_drewN ?_ _ | refine blk_drew ?_ | refine blk_alloc ?_ _)); refine blk_put (cs := #[.int .i64 t166, .int .i64 t172, .int .i64 0, .int .i64 0, .int .i64 0, .bool false, .bool false]) ?_ 2 _ rfl; (with_reducible repeat (first | refine blk_drewN ?_ _ | refine blk_drew ?_ | refine blk_alloc ?_ _)); refine blk_put (cs := #[.int .i64 t166, .int .i64 0, .int .i64 0, .int .i64 0, .int .i64 0, .bool false, .bool false]) ?_ 1 _ rfl; (with_reducible repeat (first | refine blk_drewN ?_ _ | refine blk_drew ?_ | refine blk_alloc ?_ _)); refine blk_put (cs := #[.int .i64 0, .int .i64 0, .int .i64 0, .int .i64 0, .int .i64 0, .bool false, .bool false]) ?_ 0 _ rfl; (with_reducible repeat (first | refine blk_drewN ?_ _ | refine blk_drew ?_ | refine blk_alloc ?_ _)); exact BK157.out) Tryd.underlying35 rfl (by kernel_rfl)) rfl ?_
                    exact ⟨by first | rfl | (simp [errW_none, errW_some] <;> rfl) | (simp [*, errW_none, errW_some] <;> rfl), by repeat (first | (with_reducible first | exact HI0.out | apply IsS56.alloc | apply IsS56.drewN | apply IsS56.drew | apply IsS56.set_1 | apply IsS56.set_2 | apply IsS56.set_3 | apply IsS56.set_4 | refine IsS56.far ?_ NB0_157.out _ | refine IsS56.far ?_ NB0_158.out _) | exact HI0.out), by repeat (first | (with_reducible first | exact HB.out | apply below_alloc | apply pw_below_drewN | apply below_drew1 | refine below_set ?_ (IsS56.ge HI0.out) | refine below_set ?_ GE157.out | refine below_set ?_ GE158.out) | exact HB.out), by repeat (first | (with_reducible first | exact HK.out | apply KeepBut.set_ | apply keep_drewN | apply keep_drew | apply keep_alloc | refine keep_far ?_ GW157.out _ | refine keep_far ?_ GW158.out _) | exact HK.out)⟩
            · rw [if_neg c13] at H
              exact absurd H (by simp)
          · rw [if_neg c11] at H
            exact absurd H (by simp)
        · rw [if_neg c9] at H
          exact absurd H (by simp)
      · rw [if_neg c7] at H
        exact absurd H (by simp)
    · rw [if_neg c5] at H
      exact absurd H (by simp)
  · rw [if_neg c3] at H
    exact absurd H (by simp)

end Go.Proofs.YtbhbpopebmdemaaDoor.PA
