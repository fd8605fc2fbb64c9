-- printed by the kit's print.py for texts of this session's own, and turned by hand where it was wanted
import Derived.Test.YtbhbpopebmdemaaDoorPAx0
import Derived.Test.YtbhbpopebmdemaaDoorPAx16
import Derived.Test.YtbhbpopebmdemaaDoorPAx17
import Derived.Test.YtbhbpopebmdemaaDoorPAx18
namespace Go.Proofs.YtbhbpopebmdemaaDoor.PA
open Go.RowKit Go.Proofs.YtbhbpopebmdemaaDoorW.PrintWords Go.Proofs.YtbhbpopebmdemaaDoorW.PrintLast Go.Proofs.YtbhbpopebmdemaaDoorW.PrintMore
attribute [local go_sem] max2_int min2_int max_two min_two max_three min_three max_four min_four   -- for this text's walks alone
set_option linter.unusedVariables false
set_option linter.unusedSimpArgs false

/-! ### chicaneref39_Print: function 15 -/
mutual
def chicaneref39_Print.l0 : Nat → List (S35) → Int → Option (ByteArray × Int)
  | 0, _, _ => none
  | k + 1, x0, x4 => if x4 < (x0.length : Int) then (if 0 ≤ x4 then ((chicaneref19_Right.f ((rd_T35 x0 x4).f0) ((rd_T35 x0 x4).f1) ((rd_T35 x0 x4).f2) ((rd_T35 x0 x4).f3) ((rd_T35 x0 x4).f4) ((rd_T35 x0 x4).f5) ((rd_T35 x0 x4).f6)).bind fun t270 => (if t270 = 0 then (chicaneref39_Print.l0 k x0 (wrap64 (x4 + 1))) else (some ((⟨#[]⟩ : ByteArray), 40)))) else (none)) else ((chicaneref39_Runs.f k x0).bind fun t271 => (chicaneref39_Print.l1 k x0 (⟨#[115, 99, 114, 105, 112, 116, 10]⟩ : ByteArray) 0 t271 0))
def chicaneref39_Print.l1 : Nat → List (S35) → ByteArray → Int → List Int → Int → Option (ByteArray × Int)
  | 0, _, _, _, _, _ => none
  | k + 1, x0, x5, x6, x7, x8 => if x8 < (x7.length : Int) then (if 0 ≤ x6 then (if x6 < (x0.length : Int) then (if x5.size + 2 ≤ 9223372036854775807 then (if 0 ≤ x8 then (chicaneref39_Print.l2 k x0 (x5 ++ (⟨#[100, 111]⟩ : ByteArray)) x6 x7 x8 (([rd x7 x8, (rd_T35 x0 x6).f0, (rd_T35 x0 x6).f1, (rd_T35 x0 x6).f2, (rd_T35 x0 x6).f3, (rd_T35 x0 x6).f4] : List Int)) 0 ((rd_T35 x0 x6).f0) ((rd_T35 x0 x6).f1) ((rd_T35 x0 x6).f2) ((rd_T35 x0 x6).f3) ((rd_T35 x0 x6).f4) ((rd_T35 x0 x6).f5) ((rd_T35 x0 x6).f6)) else (none)) else (none)) else (none)) else (none)) else (if x5.size + 4 ≤ 9223372036854775807 then (some (x5 ++ (⟨#[101, 110, 100, 10]⟩ : ByteArray), 0)) else (none))
def chicaneref39_Print.l2 : Nat → List (S35) → ByteArray → Int → List Int → Int → List Int → Int → Int → Int → Int → Int → Int → Bool → Bool → Option (ByteArray × Int)
  | 0, _, _, _, _, _, _, _, _, _, _, _, _, _, _ => none
  | k + 1, x0, x5, x6, x7, x8, x10, x11, x276000, x276001, x276002, x276003, x276004, x276005, x276006 => if x11 < 6 then (if 0 ≤ x11 then (if x11 < (x10.length : Int) then ((chicaneref36_Whole.f k (rd x10 x11)).bind fun t281 => (if 1 + t281.size ≤ 9223372036854775807 then (if x5.size + ((⟨#[32]⟩ : ByteArray) ++ t281).size ≤ 9223372036854775807 then (chicaneref39_Print.l2 k x0 (x5 ++ ((⟨#[32]⟩ : ByteArray) ++ t281)) x6 x7 x8 x10 (wrap64 (x11 + 1)) x276000 x276001 x276002 x276003 x276004 x276005 x276006) else (none)) else (none))) else (none)) else (none)) else (if x276005 = true then (if x5.size + 5 ≤ 9223372036854775807 then (if x276006 = true then (if (x5 ++ (⟨#[32, 97, 117, 116, 111]⟩ : ByteArray)).size + 6 ≤ 9223372036854775807 then (if ((x5 ++ (⟨#[32, 97, 117, 116, 111]⟩ : ByteArray)) ++ (⟨#[32, 114, 101, 115, 101, 116]⟩ : ByteArray)).size + 1 ≤ 9223372036854775807 then (if 0 ≤ x8 then (if x8 < (x7.length : Int) then (chicaneref39_Print.l1 k x0 (((x5 ++ (⟨#[32, 97, 117, 116, 111]⟩ : ByteArray)) ++ (⟨#[32, 114, 101, 115, 101, 116]⟩ : ByteArray)) ++ (⟨#[10]⟩ : ByteArray)) (wrap64 (x6 + (rd x7 x8))) x7 (wrap64 (x8 + 1))) else (none)) else (none)) else (none)) else (none)) else (if (x5 ++ (⟨#[32, 97, 117, 116, 111]⟩ : ByteArray)).size + 1 ≤ 9223372036854775807 then (if 0 ≤ x8 then (if x8 < (x7.length : Int) then (chicaneref39_Print.l1 k x0 ((x5 ++ (⟨#[32, 97, 117, 116, 111]⟩ : ByteArray)) ++ (⟨#[10]⟩ : ByteArray)) (wrap64 (x6 + (rd x7 x8))) x7 (wrap64 (x8 + 1))) else (none)) else (none)) else (none))) else (none)) else (if x276006 = true then (if x5.size + 6 ≤ 9223372036854775807 then (if (x5 ++ (⟨#[32, 114, 101, 115, 101, 116]⟩ : ByteArray)).size + 1 ≤ 9223372036854775807 then (if 0 ≤ x8 then (if x8 < (x7.length : Int) then (chicaneref39_Print.l1 k x0 ((x5 ++ (⟨#[32, 114, 101, 115, 101, 116]⟩ : ByteArray)) ++ (⟨#[10]⟩ : ByteArray)) (wrap64 (x6 + (rd x7 x8))) x7 (wrap64 (x8 + 1))) else (none)) else (none)) else (none)) else (none)) else (if x5.size + 1 ≤ 9223372036854775807 then (if 0 ≤ x8 then (if x8 < (x7.length : Int) then (chicaneref39_Print.l1 k x0 (x5 ++ (⟨#[10]⟩ : ByteArray)) (wrap64 (x6 + (rd x7 x8))) x7 (wrap64 (x8 + 1))) else (none)) else (none)) else (none))))
end
def chicaneref39_Print.f (k : Nat) (l0 : List (S35)) : Option (ByteArray × Int) := if (l0.length : Int) > 16777216 then (some ((⟨#[]⟩ : ByteArray), 42)) else (chicaneref39_Print.l0 k l0 0)
theorem chicaneref39_Print.mono_l : ∀ k, (∀ y0 y1, LeO (chicaneref39_Print.l0 k y0 y1) (chicaneref39_Print.l0 (k + 1) y0 y1)) ∧ (∀ y0 y1 y2 y3 y4, LeO (chicaneref39_Print.l1 k y0 y1 y2 y3 y4) (chicaneref39_Print.l1 (k + 1) y0 y1 y2 y3 y4)) ∧ (∀ y0 y1 y2 y3 y4 y5 y6 y7 y8 y9 y10 y11 y12 y13, LeO (chicaneref39_Print.l2 k y0 y1 y2 y3 y4 y5 y6 y7 y8 y9 y10 y11 y12 y13) (chicaneref39_Print.l2 (k + 1) y0 y1 y2 y3 y4 y5 y6 y7 y8 y9 y10 y11 y12 y13))
  | 0 => ⟨fun _ _ r h => by simp [chicaneref39_Print.l0] at h, fun _ _ _ _ _ r h => by simp [chicaneref39_Print.l1] at h, fun _ _ _ _ _ _ _ _ _ _ _ _ _ _ r h => by simp [chicaneref39_Print.l2] at h⟩
  | k + 1 => by
    obtain ⟨ih0, ih1, ih2⟩ := chicaneref39_Print.mono_l k
    refine ⟨?_, ?_, ?_⟩
    · intro y0 y1
      unfold chicaneref39_Print.l0
      repeat' first
      | (with_reducible exact ih0 _ _)
      | (with_reducible exact ih1 _ _ _ _ _)
      | (with_reducible exact ih2 _ _ _ _ _ _ _ _ _ _ _ _ _ _)
      | (with_reducible exact chicaneref36_Whole.mono _ _)
      | (with_reducible exact chicaneref39_Runs.mono _ _)
      | (with_reducible exact LeO.refl _)
      | (with_reducible exact LeO.none _)
      | (with_reducible refine LeO.ite ?_ ?_)
      | (with_reducible refine LeO.bind ?_ (fun _ => ?_))
      | exact ih0 _ _
      | exact ih1 _ _ _ _ _
      | exact ih2 _ _ _ _ _ _ _ _ _ _ _ _ _ _
      | exact chicaneref36_Whole.mono _ _
      | exact chicaneref39_Runs.mono _ _
      | exact LeO.none _
      | refine LeO.ite ?_ ?_
      | refine LeO.bind ?_ (fun _ => ?_)
    · intro y0 y1 y2 y3 y4
      unfold chicaneref39_Print.l1
      repeat' first
      | (with_reducible exact ih0 _ _)
      | (with_reducible exact ih1 _ _ _ _ _)
      | (with_reducible exact ih2 _ _ _ _ _ _ _ _ _ _ _ _ _ _)
      | (with_reducible exact chicaneref36_Whole.mono _ _)
      | (with_reducible exact chicaneref39_Runs.mono _ _)
      | (with_reducible exact LeO.refl _)
      | (with_reducible exact LeO.none _)
      | (with_reducible refine LeO.ite ?_ ?_)
      | (with_reducible refine LeO.bind ?_ (fun _ => ?_))
      | exact ih0 _ _
      | exact ih1 _ _ _ _ _
      | exact ih2 _ _ _ _ _ _ _ _ _ _ _ _ _ _
      | exact chicaneref36_Whole.mono _ _
      | exact chicaneref39_Runs.mono _ _
      | exact LeO.none _
      | refine LeO.ite ?_ ?_
      | refine LeO.bind ?_ (fun _ => ?_)
    · intro y0 y1 y2 y3 y4 y5 y6 y7 y8 y9 y10 y11 y12 y13
      unfold chicaneref39_Print.l2
      repeat' first
      | (with_reducible exact ih0 _ _)
      | (with_reducible exact ih1 _ _ _ _ _)
      | (with_reducible exact ih2 _ _ _ _ _ _ _ _ _ _ _ _ _ _)
      | (with_reducible exact chicaneref36_Whole.mono _ _)
      | (with_reducible exact chicaneref39_Runs.mono _ _)
      | (with_reducible exact LeO.refl _)
      | (with_reducible exact LeO.none _)
      | (with_reducible refine LeO.ite ?_ ?_)
      | (with_reducible refine LeO.bind ?_ (fun _ => ?_))
      | exact ih0 _ _
      | exact ih1 _ _ _ _ _
      | exact ih2 _ _ _ _ _ _ _ _ _ _ _ _ _ _
      | exact chicaneref36_Whole.mono _ _
      | exact chicaneref39_Runs.mono _ _
      | exact LeO.none _
      | refine LeO.ite ?_ ?_
      | refine LeO.bind ?_ (fun _ => ?_)
theorem chicaneref39_Print.mono : ∀ a0 k, LeO (chicaneref39_Print.f k a0) (chicaneref39_Print.f (k + 1) a0) := by
  intro a0 k
  obtain ⟨ih0, ih1, ih2⟩ := chicaneref39_Print.mono_l k
  unfold chicaneref39_Print.f
  repeat' first
      | (with_reducible exact ih0 _ _)
      | (with_reducible exact ih1 _ _ _ _ _)
      | (with_reducible exact ih2 _ _ _ _ _ _ _ _ _ _ _ _ _ _)
      | (with_reducible exact chicaneref36_Whole.mono _ _)
      | (with_reducible exact chicaneref39_Runs.mono _ _)
      | (with_reducible exact LeO.refl _)
      | (with_reducible exact LeO.none _)
      | (with_reducible refine LeO.ite ?_ ?_)
      | (with_reducible refine LeO.bind ?_ (fun _ => ?_))
      | exact ih0 _ _
      | exact ih1 _ _ _ _ _
      | exact ih2 _ _ _ _ _ _ _ _ _ _ _ _ _ _
      | exact chicaneref36_Whole.mono _ _
      | exact chicaneref39_Runs.mono _ _
      | exact LeO.none _
      | refine LeO.ite ?_ ?_
      | refine LeO.bind ?_ (fun _ => ?_)
def chicaneref39_Print.T16 : Bool × List (List Nat × List Nat) := (true, [([], []), ([], []), ([0, 1], [0, 1]), ([2], [2]), ([], []), ([4], [4]), ([], []), ([6], [6]), ([], []), ([8], [8]), ([], []), ([10], [10]), ([], []), ([12], [12]), ([3, 5, 7, 9, 11, 13], [3, 5, 7, 9, 11, 13]), ([14, 0, 1, 2, 3, 4, 5, 6, 7, 8, 9, 10, 11, 12, 13, 14], [14])])
def chicaneref39_Print.B16 : List Nat := [0, 0, 3, 7, 0, 16, 0, 64, 0, 256, 0, 1024, 0, 4096, 16383, 32767]
theorem chicaneref39_Print.tab16 : rtab .any (opsOf Tryd.f15 16) = chicaneref39_Print.T16 := by kernel_rfl
theorem chicaneref39_Print.bits16 : waitsOk chicaneref39_Print.T16.2 chicaneref39_Print.B16 = true := by kernel_rfl
set_option maxHeartbeats 8000000 in
set_option maxRecDepth 100000 in
theorem chicaneref39_Print.calls (k : Nat) (A0 : Option Addr) (c0 : Nat) (l0 : List (S35)) (r1 : ByteArray) (r2 : Int) (w : World) (hr0 : Kd.C k35 w A0 l0.length l0) (hc0 : l0.length ≤ c0) (h : chicaneref39_Print.f k l0 = some (r1, r2)) :
    Calls Tryd.prog 15 #[.slice A0 l0.length c0] w fun e w' => e = .returned (.tuple #[.string r1, .int .i64 r2]) ∧ Below w.heap.size w w' := by
  have hu35 := Tryd.underlying35
  have HR0 := Aside0.mk hr0
  have HC0 := Aside0.mk hc0
  clear hr0 hc0
  have HB := Aside0.mk (Below.refl w.heap.size w)
  have H : (if (l0.length : Int) > 16777216 then (some ((⟨#[]⟩ : ByteArray), 42)) else (chicaneref39_Print.l0 k l0 0)) = some (r1, r2) := h
  clear h
  by_cases c2 : (l0.length : Int) > 16777216
  · rw [if_pos c2] at H
    have c2b0 : decide (16777216 < (l0.length : Int)) = true := decide_eq_true c2
    have c2b1 : decide (16777216 < l0.length) = true := decide_eq_true (by omega)
    clear c2
    simp only [Option.some.injEq, Prod.mk.injEq] at H
    obtain ⟨rfl, rfl⟩ := H
    go_enter Tryd.func15, Tryd.ntmps15
    go_wp2
    go_ret2
    exact ⟨by first | rfl | (simp [errW_none, errW_some] <;> rfl) | (simp [*, errW_none, errW_some] <;> rfl), by repeat (first | (with_reducible first | exact HB.out | apply below_alloc | apply pw_below_drewN | apply below_drew1) | exact HB.out)⟩
  · rw [if_neg c2] at H
    have c2b0 : decide (16777216 < (l0.length : Int)) = false := decide_eq_false c2
    have c2b1 : decide (16777216 < l0.length) = false := decide_eq_false (by omega)
    clear c2
    have H' := Aside0.mk H
    clear H
    go_enter Tryd.func15, Tryd.ntmps15
    go_wp2
    go_loopg [4] k (fun kq v4 w' => ∃ (x4_1 : Int), v4 = .int .i64 x4_1 ∧ Aside0 (chicaneref39_Print.l0 kq l0 x4_1 = some (r1, r2)) ∧ Aside0 (kq ≤ k) ∧ Aside0 (Below w.heap.size w w'))
    case atStart => exact ⟨(0), (by first | rfl | (simp; done) | (simp [*]; done)), H', ⟨Nat.le_refl _⟩, ⟨by repeat (first | (with_reducible first | exact HB.out | apply below_alloc | apply pw_below_drewN | apply below_drew1) | exact HB.out)⟩⟩
    case round =>
      clear H'
      try clear c1
      try clear c2
      try clear c2b0
      try clear c2b1
      try clear p2
      obtain ⟨x4_1, rfl, HA, HK1, HB⟩ := hrel
      cases gk with
      | zero => exact absurd HA.out (by simp [chicaneref39_Print.l0])
      | succ k1 =>
        have H := HA.out
        clear HA
        simp only [chicaneref39_Print.l0] at H
        by_cases c3 : x4_1 < (l0.length : Int)
        · rw [if_pos c3] at H
          have c3b0 : decide (x4_1 < (l0.length : Int)) = true := decide_eq_true c3
          clear c3
          by_cases c4 : 0 ≤ x4_1
          · rw [if_pos c4] at H
            have c4b0 : decide (0 ≤ x4_1) = true := decide_eq_true c4
            clear c4
            replace H := Option.bind_eq_some_iff.mp H
            obtain ⟨t270, A50, H⟩ := H
            replace H : (if t270 = 0 then (chicaneref39_Print.l0 k1 l0 (wrap64 (x4_1 + 1))) else (some ((⟨#[]⟩ : ByteArray), 40))) = some (r1, r2) := H
            have A5 := Aside0.mk A50
            clear A50
            by_cases c6 : t270 = 0
            · rw [if_pos c6] at H
              have c6b0 : (t270 == 0) = true := beq_iff_eq.mpr c6
              have c6b1 : (t270 != 0) = false := bne_eq_false_iff_eq.mpr c6
              clear c6
              have H' := Aside0.mk H
              clear H
              have p269 : 0 ≤ (x4_1 : Int) := of_decide_eq_true (by first | (with_reducible assumption) | assumption)
              have q269 : x4_1 < (l0.length : Int) := of_decide_eq_true (by first | (with_reducible assumption) | assumption)
              obtain ⟨ad269, e269, hx269_0, hx269_1, hx269_2, hx269_3, hx269_4, hx269_5, hx269_6⟩ := at_T35 HR0.out x4_1 p269 q269
              cases e269
              replace hx269_0 := (HB.out.cell (World.block_lt_of_cell? w _ hx269_0)).trans hx269_0
              replace hx269_1 := (HB.out.cell (World.block_lt_of_cell? w _ hx269_1)).trans hx269_1
              replace hx269_2 := (HB.out.cell (World.block_lt_of_cell? w _ hx269_2)).trans hx269_2
              replace hx269_3 := (HB.out.cell (World.block_lt_of_cell? w _ hx269_3)).trans hx269_3
              replace hx269_4 := (HB.out.cell (World.block_lt_of_cell? w _ hx269_4)).trans hx269_4
              replace hx269_5 := (HB.out.cell (World.block_lt_of_cell? w _ hx269_5)).trans hx269_5
              replace hx269_6 := (HB.out.cell (World.block_lt_of_cell? w _ hx269_6)).trans hx269_6
              replace p269 := eq_true p269
              replace q269 := eq_true q269
              go_wp2_with (first | ((with_reducible refine gate_callee (f := 49) rfl ?_); refine goesL_ (some 25) rfl rfl Tryd.func49 (by kernel_rfl) rfl #[.agg #[.int .i64 ((rd_T35 l0 x4_1).f0), .int .i64 ((rd_T35 l0 x4_1).f1), .int .i64 ((rd_T35 l0 x4_1).f2), .int .i64 ((rd_T35 l0 x4_1).f3), .int .i64 ((rd_T35 l0 x4_1).f4), .bool ((rd_T35 l0 x4_1).f5), .bool ((rd_T35 l0 x4_1).f6)]] rfl (by (try simp only [List.map_toArray, List.map_cons, List.map_nil]); first | done | rfl | (simp only [List.length_drop, List.length_take]; rfl)) ?_; (with_reducible refine (chicaneref19_Right.calls ((rd_T35 l0 x4_1).f0) ((rd_T35 l0 x4_1).f1) ((rd_T35 l0 x4_1).f2) ((rd_T35 l0 x4_1).f3) ((rd_T35 l0 x4_1).f4) ((rd_T35 l0 x4_1).f5) ((rd_T35 l0 x4_1).f6) t270 _ A5.out).mono ?_); rintro e w7 ⟨rfl, hb⟩; refine ⟨_, rfl, ?_⟩; have n0_ := Aside0.mk (below_step (by repeat (first | (with_reducible first | exact HB.out | apply below_alloc | apply pw_below_drewN | apply below_drew1) | exact HB.out)) hb); clear HB; have HB := n0_; clear n0_; (try clear hb); (try clear hb2); (try clear hk); (try clear hi)))
              go_roundg k1
              case measure => have := HK1.out; omega
              case rel => exact ⟨(wrap64 (x4_1 + 1)), (by first | rfl | (simp; done) | (simp [*]; done)), H', ⟨by have := HK1.out; omega⟩, ⟨by repeat (first | (with_reducible first | exact HB.out | apply below_alloc | apply pw_below_drewN | apply below_drew1) | exact HB.out)⟩⟩
            · rw [if_neg c6] at H
              have c6b0 : (t270 == 0) = false := beq_eq_false_iff_ne.mpr c6
              have c6b1 : (t270 != 0) = true := bne_iff_ne.mpr c6
              simp only [Option.some.injEq, Prod.mk.injEq] at H
              obtain ⟨rfl, rfl⟩ := H
              have p269 : 0 ≤ (x4_1 : Int) := of_decide_eq_true (by first | (with_reducible assumption) | assumption)
              have q269 : x4_1 < (l0.length : Int) := of_decide_eq_true (by first | (with_reducible assumption) | assumption)
              obtain ⟨ad269, e269, hx269_0, hx269_1, hx269_2, hx269_3, hx269_4, hx269_5, hx269_6⟩ := at_T35 HR0.out x4_1 p269 q269
              cases e269
              replace hx269_0 := (HB.out.cell (World.block_lt_of_cell? w _ hx269_0)).trans hx269_0
              replace hx269_1 := (HB.out.cell (World.block_lt_of_cell? w _ hx269_1)).trans hx269_1
              replace hx269_2 := (HB.out.cell (World.block_lt_of_cell? w _ hx269_2)).trans hx269_2
              replace hx269_3 := (HB.out.cell (World.block_lt_of_cell? w _ hx269_3)).trans hx269_3
              replace hx269_4 := (HB.out.cell (World.block_lt_of_cell? w _ hx269_4)).trans hx269_4
              replace hx269_5 := (HB.out.cell (World.block_lt_of_cell? w _ hx269_5)).trans hx269_5
              replace hx269_6 := (HB.out.cell (World.block_lt_of_cell? w _ hx269_6)).trans hx269_6
              replace p269 := eq_true p269
              replace q269 := eq_true q269
              go_wp2_with (first | ((with_reducible refine gate_callee (f := 49) rfl ?_); refine goesL_ (some 25) rfl rfl Tryd.func49 (by kernel_rfl) rfl #[.agg #[.int .i64 ((rd_T35 l0 x4_1).f0), .int .i64 ((rd_T35 l0 x4_1).f1), .int .i64 ((rd_T35 l0 x4_1).f2), .int .i64 ((rd_T35 l0 x4_1).f3), .int .i64 ((rd_T35 l0 x4_1).f4), .bool ((rd_T35 l0 x4_1).f5), .bool ((rd_T35 l0 x4_1).f6)]] rfl (by (try simp only [List.map_toArray, List.map_cons, List.map_nil]); first | done | rfl | (simp only [List.length_drop, List.length_take]; rfl)) ?_; (with_reducible refine (chicaneref19_Right.calls ((rd_T35 l0 x4_1).f0) ((rd_T35 l0 x4_1).f1) ((rd_T35 l0 x4_1).f2) ((rd_T35 l0 x4_1).f3) ((rd_T35 l0 x4_1).f4) ((rd_T35 l0 x4_1).f5) ((rd_T35 l0 x4_1).f6) t270 _ A5.out).mono ?_); rintro e w8 ⟨rfl, hb⟩; refine ⟨_, rfl, ?_⟩; have n0_ := Aside0.mk (below_step (by repeat (first | (with_reducible first | exact HB.out | apply below_alloc | apply pw_below_drewN | apply below_drew1) | exact HB.out)) hb); clear HB; have HB := n0_; clear n0_; (try clear hb); (try clear hb2); (try clear hk); (try clear hi)))
              go_ret2
              exact ⟨by first | rfl | (simp [errW_none, errW_some] <;> rfl) | (simp [*, errW_none, errW_some] <;> rfl), by repeat (first | (with_reducible first | exact HB.out | apply below_alloc | apply pw_below_drewN | apply below_drew1) | exact HB.out)⟩
          · rw [if_neg c4] at H
            exact absurd H (by simp)
        · rw [if_neg c3] at H
          have c3b0 : decide (x4_1 < (l0.length : Int)) = false := decide_eq_false c3
          clear c3
          replace H := Option.bind_eq_some_iff.mp H
          obtain ⟨t271, A90, H⟩ := H
          replace H : (chicaneref39_Print.l1 k1 l0 (⟨#[115, 99, 114, 105, 112, 116, 10]⟩ : ByteArray) 0 t271 0) = some (r1, r2) := H
          have A9 := Aside0.mk A90
          clear A90
          have H' := Aside0.mk H
          clear H
          go_wp2_with (first | ((with_reducible refine gate_callee (f := 17) rfl ?_); refine goesL_ (some 28) rfl rfl Tryd.func17 (by kernel_rfl) rfl #[.slice A0 l0.length c0] rfl (by (try simp only [List.map_toArray, List.map_cons, List.map_nil]); first | done | rfl | (simp only [List.length_drop, List.length_take]; rfl)) ?_; (with_reducible refine (chicaneref39_Runs.calls k1 _ _ l0 t271 _ ?side1 ?side2 A9.out).mono ?_); (case side1 => repeat (first | exact (Kd.C_below HR0.out HB.out) | (with_reducible refine Kd.C_alloc ?_ _) | (with_reducible refine Kd.C_drewN ?_ _) | (with_reducible refine Kd.C_drew ?_))); (case side2 => exact HC0.out); rintro e w10 ⟨v272, rfl, ho0, hb⟩; refine ⟨_, rfl, ?_⟩; have n0_ := Aside0.mk (Kd.R_lower ho0 (below_size (by repeat (first | (with_reducible first | exact HB.out | apply below_alloc | apply pw_below_drewN | apply below_drew1) | exact HB.out)))); have n1_ := Aside0.mk (below_step (by repeat (first | (with_reducible first | exact HB.out | apply below_alloc | apply pw_below_drewN | apply below_drew1) | exact HB.out)) hb); clear HB; have HO273 := n0_; have HB := n1_; clear n0_ n1_; (try clear hb); (try clear hb2); (try clear hk); (try clear hi); (try clear ho0)))
          go_loopg [5, 6, 8] k1 (fun kq v5 v6 v8 w' => ∃ (x5_2 : ByteArray) (x6_2 : Int) (x8_2 : Int), v5 = .string x5_2 ∧ v6 = .int .i64 x6_2 ∧ v8 = .int .i64 x8_2 ∧ Aside0 (chicaneref39_Print.l1 kq l0 x5_2 x6_2 t271 x8_2 = some (r1, r2)) ∧ Aside0 (kq ≤ k1) ∧ Aside0 (Kd.R (Kd.int .i64) 3 w' w.heap.size (fun _ => True) v272 t271) ∧ Aside0 (Below w.heap.size w w'))
          case atStart => exact ⟨((⟨#[115, 99, 114, 105, 112, 116, 10]⟩ : ByteArray)), (0), (0), (by first | rfl | (simp; done) | (simp [*]; done)), (by first | rfl | (simp; done) | (simp [*]; done)), (by first | rfl | (simp; done) | (simp [*]; done)), H', ⟨Nat.le_refl _⟩, ⟨by (with_reducible repeat (first | apply Kd.R_alloc | apply Kd.R_drewN | apply Kd.R_drew)); exact HO273.out⟩, ⟨by repeat (first | (with_reducible first | exact HB.out | apply below_alloc | apply pw_below_drewN | apply below_drew1) | exact HB.out)⟩⟩
          case round =>
            clear H'
            try clear c1
            try clear c2
            try clear c2b0
            try clear c2b1
            try clear p2
            try clear q2
            try clear hx2
            try clear c3
            try clear c3b0
            try clear c4
            try clear c4b0
            try clear c6
            try clear c6b0
            try clear c6b1
            try clear p6
            try clear hx269_0
            try clear hx269_1
            try clear hx269_2
            try clear hx269_3
            try clear hx269_4
            try clear hx269_5
            try clear hx269_6
            try clear p2
            try clear p269
            try clear q269
            obtain ⟨x5_2, x6_2, x8_2, rfl, rfl, rfl, HA, HK2, HO_7, HB⟩ := hrel
            cases gk with
            | zero => exact absurd HA.out (by simp [chicaneref39_Print.l1])
            | succ k2 =>
              have H := HA.out
              clear HA
              simp only [chicaneref39_Print.l1] at H
              by_cases c11 : x8_2 < (t271.length : Int)
              · rw [if_pos c11] at H
                have c11b0 : decide (x8_2 < (t271.length : Int)) = true := decide_eq_true c11
                clear c11
                by_cases c12 : 0 ≤ x6_2
                · rw [if_pos c12] at H
                  have c12b0 : decide (0 ≤ x6_2) = true := decide_eq_true c12
                  clear c12
                  by_cases c13 : x6_2 < (l0.length : Int)
                  · rw [if_pos c13] at H
                    have c13b0 : decide (x6_2 < (l0.length : Int)) = true := decide_eq_true c13
                    clear c13
                    by_cases c14 : x5_2.size + 2 ≤ 9223372036854775807
                    · rw [if_pos c14] at H
                      have c14b0 := eq_true c14
                      have c14b1 : decide (x5_2.size + 2 ≤ 9223372036854775807) = true := decide_eq_true c14
                      try have c14b2 : (9223372036854775807 < x5_2.size + 2) = False := eq_false (Nat.not_lt.2 c14)
                      by_cases c15 : 0 ≤ x8_2
                      · rw [if_pos c15] at H
                        have c15b0 : decide (0 ≤ x8_2) = true := decide_eq_true c15
                        clear c15
                        obtain ⟨y277, hy277⟩ : ∃ y_ : List Int, y_ = (([rd t271 x8_2, (rd_T35 l0 x6_2).f0, (rd_T35 l0 x6_2).f1, (rd_T35 l0 x6_2).f2, (rd_T35 l0 x6_2).f3, (rd_T35 l0 x6_2).f4] : List Int)) := ⟨_, rfl⟩
                        replace H : (chicaneref39_Print.l2 k2 l0 (x5_2 ++ (⟨#[100, 111]⟩ : ByteArray)) x6_2 t271 x8_2 y277 0 ((rd_T35 l0 x6_2).f0) ((rd_T35 l0 x6_2).f1) ((rd_T35 l0 x6_2).f2) ((rd_T35 l0 x6_2).f3) ((rd_T35 l0 x6_2).f4) ((rd_T35 l0 x6_2).f5) ((rd_T35 l0 x6_2).f6)) = some (r1, r2) := by first | (rw [hy277]; with_reducible exact H) | (have H2_ := (Option.bind_some _ _).symm.trans H; rw [hy277]; with_reducible exact H2_) | (have H2_ := (Option.bind_some _ _).symm.trans H; with_reducible exact H2_) | with_reducible exact H | (rw [hy277]; exact H) | exact H
                        have Ny277 := Aside0.mk hy277
                        clear hy277
                        have H' := Aside0.mk H
                        clear H
                        obtain ⟨Ao16, co16, eo16⟩ := Kd.R_slice HO_7.out
                        subst eo16
                        have p274 : 0 ≤ (x6_2 : Int) := of_decide_eq_true (by first | (with_reducible assumption) | assumption)
                        have q274 : x6_2 < (l0.length : Int) := of_decide_eq_true (by first | (with_reducible assumption) | assumption)
                        obtain ⟨ad274, e274, hx274_0, hx274_1, hx274_2, hx274_3, hx274_4, hx274_5, hx274_6⟩ := at_T35 HR0.out x6_2 p274 q274
                        cases e274
                        replace hx274_0 := (HB.out.cell (World.block_lt_of_cell? w _ hx274_0)).trans hx274_0
                        replace hx274_1 := (HB.out.cell (World.block_lt_of_cell? w _ hx274_1)).trans hx274_1
                        replace hx274_2 := (HB.out.cell (World.block_lt_of_cell? w _ hx274_2)).trans hx274_2
                        replace hx274_3 := (HB.out.cell (World.block_lt_of_cell? w _ hx274_3)).trans hx274_3
                        replace hx274_4 := (HB.out.cell (World.block_lt_of_cell? w _ hx274_4)).trans hx274_4
                        replace hx274_5 := (HB.out.cell (World.block_lt_of_cell? w _ hx274_5)).trans hx274_5
                        replace hx274_6 := (HB.out.cell (World.block_lt_of_cell? w _ hx274_6)).trans hx274_6
                        replace p274 := eq_true p274
                        replace q274 := eq_true q274
                        try go_wp2_with (first | ((with_reducible refine gate_dst (N := 9) rfl ?_); refine box_event ?hg (N := 9) ?hd (cs := #[.int .i64 0, .int .i64 0, .int .i64 0, .int .i64 0, .int .i64 0, .bool false, .bool false]) (t := 35) ?hr ?_; (case hd => rfl); (case hg => rfl); (case hr => first | (go_simp; done) | (go_simp; rfl)); intro gb275 hg w17 hbox hb; have n0_ := Aside0.mk (Kd.R_below (by (with_reducible repeat (first | apply Kd.R_alloc | apply Kd.R_drewN | apply Kd.R_drew)); exact HO_7.out) hb); have n1_ := Aside0.mk (below_step (by repeat (first | (with_reducible first | exact HB.out | apply below_alloc | apply pw_below_drewN | apply below_drew1) | exact HB.out)) hb); have n2_ := Aside0.mk (hbox); have n3_ := Aside0.mk ((by rw [hg]; exact (below_size (by repeat (first | (with_reducible first | exact HB.out | apply below_alloc | apply pw_below_drewN | apply below_drew1) | exact HB.out))) : w.heap.size ≤ gb275)); have n4_ := Aside0.mk ((by rw [hg]; exact (below_size (by repeat (first | (with_reducible first | exact HB.out | apply below_alloc | apply pw_below_drewN | apply below_drew1) | exact HB.out))) : w.heap.size ≤ gb275)); clear HO_7; clear HB; have HO_7 := n0_; have HB := n1_; have BK275 := n2_; have GW275 := n3_; have GE275 := n4_; clear n0_ n1_ n2_ n3_ n4_; clear hb hbox hg; have hcz18_0 : w17.cell? ⟨gb275, 0, none⟩ = some (.int .i64 0) := (blk_cell BK275.out 0).trans rfl; have hcz18_1 : w17.cell? ⟨gb275, 1, none⟩ = some (.int .i64 0) := (blk_cell BK275.out 1).trans rfl; have hcz18_2 : w17.cell? ⟨gb275, 2, none⟩ = some (.int .i64 0) := (blk_cell BK275.out 2).trans rfl; have hcz18_3 : w17.cell? ⟨gb275, 3, none⟩ = some (.int .i64 0) := (blk_cell BK275.out 3).trans rfl; have hcz18_4 : w17.cell? ⟨gb275, 4, none⟩ = some (.int .i64 0) := (blk_cell BK275.out 4).trans rfl; have hcz18_5 : w17.cell? ⟨gb275, 5, none⟩ = some (.bool false) := (blk_cell BK275.out 5).trans rfl; have hcz18_6 : w17.cell? ⟨gb275, 6, none⟩ = some (.bool false) := (blk_cell BK275.out 6).trans rfl; have hfz18_0 := blk_frozen BK275.out 0; have hfz18_1 := blk_frozen BK275.out 1; have hfz18_2 := blk_frozen BK275.out 2; have hfz18_3 := blk_frozen BK275.out 3; have hfz18_4 := blk_frozen BK275.out 4; have hfz18_5 := blk_frozen BK275.out 5; have hfz18_6 := blk_frozen BK275.out 6))
                        have n0_ : Aside0 (Kd.R (Kd.int .i64) 3 (((((((w17.setCell ⟨gb275, 0, none⟩ (.int .i64 ((rd_T35 l0 x6_2).f0))).setCell ⟨gb275, 1, none⟩ (.int .i64 ((rd_T35 l0 x6_2).f1))).setCell ⟨gb275, 2, none⟩ (.int .i64 ((rd_T35 l0 x6_2).f2))).setCell ⟨gb275, 3, none⟩ (.int .i64 ((rd_T35 l0 x6_2).f3))).setCell ⟨gb275, 4, none⟩ (.int .i64 ((rd_T35 l0 x6_2).f4))).setCell ⟨gb275, 5, none⟩ (.bool ((rd_T35 l0 x6_2).f5))).setCell ⟨gb275, 6, none⟩ (.bool ((rd_T35 l0 x6_2).f6))) w.heap.size (fun _ => True) (.slice Ao16 t271.length co16) t271) := ⟨by (with_reducible repeat (first | apply Kd.R_alloc | apply Kd.R_drewN | apply Kd.R_drew)); exact Kd.R_mono (Kd.R_far (p := ⟨gb275, 6, none⟩) (Kd.R_far (p := ⟨gb275, 5, none⟩) (Kd.R_far (p := ⟨gb275, 4, none⟩) (Kd.R_far (p := ⟨gb275, 3, none⟩) (Kd.R_far (p := ⟨gb275, 2, none⟩) (Kd.R_far (p := ⟨gb275, 1, none⟩) (Kd.R_far (p := ⟨gb275, 0, none⟩) (Kd.R_types HO_7.out BK275.out (by decide)) (fun _ hk => hk.2) (.int .i64 ((rd_T35 l0 x6_2).f0))) (fun _ hk => hk.2) (.int .i64 ((rd_T35 l0 x6_2).f1))) (fun _ hk => hk.2) (.int .i64 ((rd_T35 l0 x6_2).f2))) (fun _ hk => hk.2) (.int .i64 ((rd_T35 l0 x6_2).f3))) (fun _ hk => hk.2) (.int .i64 ((rd_T35 l0 x6_2).f4))) (fun _ hk => hk.2) (.bool ((rd_T35 l0 x6_2).f5))) (fun _ hk => hk.2) (.bool ((rd_T35 l0 x6_2).f6))) (fun _ hk => trivial)⟩
                        have n1_ : Aside0 ((((((((w17.setCell ⟨gb275, 0, none⟩ (.int .i64 ((rd_T35 l0 x6_2).f0))).setCell ⟨gb275, 1, none⟩ (.int .i64 ((rd_T35 l0 x6_2).f1))).setCell ⟨gb275, 2, none⟩ (.int .i64 ((rd_T35 l0 x6_2).f2))).setCell ⟨gb275, 3, none⟩ (.int .i64 ((rd_T35 l0 x6_2).f3))).setCell ⟨gb275, 4, none⟩ (.int .i64 ((rd_T35 l0 x6_2).f4))).setCell ⟨gb275, 5, none⟩ (.bool ((rd_T35 l0 x6_2).f5))).setCell ⟨gb275, 6, none⟩ (.bool ((rd_T35 l0 x6_2).f6))).heap[gb275]? = some (.cells #[.int .i64 ((rd_T35 l0 x6_2).f0), .int .i64 ((rd_T35 l0 x6_2).f1), .int .i64 ((rd_T35 l0 x6_2).f2), .int .i64 ((rd_T35 l0 x6_2).f3), .int .i64 ((rd_T35 l0 x6_2).f4), .bool ((rd_T35 l0 x6_2).f5), .bool ((rd_T35 l0 x6_2).f6)] 35 (0, 0))) := ⟨by (with_reducible repeat (first | refine blk_drewN ?_ _ | refine blk_drew ?_ | refine blk_alloc ?_ _)); refine blk_put (cs := #[.int .i64 ((rd_T35 l0 x6_2).f0), .int .i64 ((rd_T35 l0 x6_2).f1), .int .i64 ((rd_T35 l0 x6_2).f2), .int .i64 ((rd_T35 l0 x6_2).f3), .int .i64 ((rd_T35 l0 x6_2).f4), .bool ((rd_T35 l0 x6_2).f5), .bool false]) ?_ 6 _ rfl; (with_reducible repeat (first | refine blk_drewN ?_ _ | refine blk_drew ?_ | refine blk_alloc ?_ _)); refine blk_put (cs := #[.int .i64 ((rd_T35 l0 x6_2).f0), .int .i64 ((rd_T35 l0 x6_2).f1), .int .i64 ((rd_T35 l0 x6_2).f2), .int .i64 ((rd_T35 l0 x6_2).f3), .int .i64 ((rd_T35 l0 x6_2).f4), .bool false, .bool false]) ?_ 5 _ rfl; (with_reducible repeat (first | refine blk_drewN ?_ _ | refine blk_drew ?_ | refine blk_alloc ?_ _)); refine blk_put (cs := #[.int .i64 ((rd_T35 l0 x6_2).f0), .int .i64 ((rd_T35 l0 x6_2).f1), .int .i64 ((rd_T35 l0 x6_2).f2), .int .i64 ((rd_T35 l0 x6_2).f3), .int .i64 0, .bool false, .bool false]) ?_ 4 _ rfl; (with_reducible repeat (first | refine blk_drewN ?_ _ | refine blk_drew ?_ | refine blk_alloc ?_ _)); refine blk_put (cs := #[.int .i64 ((rd_T35 l0 x6_2).f0), .int .i64 ((rd_T35 l0 x6_2).f1), .int .i64 ((rd_T35 l0 x6_2).f2), .int .i64 0, .int .i64 0, .bool false, .bool false]) ?_ 3 _ rfl; (with_reducible repeat (first | refine blk_drewN ?_ _ | refine blk_drew ?_ | refine blk_alloc ?_ _)); refine blk_put (cs := #[.int .i64 ((rd_T35 l0 x6_2).f0), .int .i64 ((rd_T35 l0 x6_2).f1), .int .i64 0, .int .i64 0, .int .i64 0, .bool false, .bool false]) ?_ 2 _ rfl; (with_reducible repeat (first | refine blk_drewN ?_ _ | refine blk_drew ?_ | refine blk_alloc ?_ _)); refine blk_put (cs := #[.int .i64 ((rd_T35 l0 x6_2).f0), .int .i64 0, .int .i64 0, .int .i64 0, .int .i64 0, .bool false, .bool false]) ?_ 1 _ rfl; (with_reducible repeat (first | refine blk_drewN ?_ _ | refine blk_drew ?_ | refine blk_alloc ?_ _)); refine blk_put (cs := #[.int .i64 0, .int .i64 0, .int .i64 0, .int .i64 0, .int .i64 0, .bool false, .bool false]) ?_ 0 _ rfl; (with_reducible repeat (first | refine blk_drewN ?_ _ | refine blk_drew ?_ | refine blk_alloc ?_ _)); exact BK275.out⟩
                        have n2_ : Aside0 (Below w.heap.size w (((((((w17.setCell ⟨gb275, 0, none⟩ (.int .i64 ((rd_T35 l0 x6_2).f0))).setCell ⟨gb275, 1, none⟩ (.int .i64 ((rd_T35 l0 x6_2).f1))).setCell ⟨gb275, 2, none⟩ (.int .i64 ((rd_T35 l0 x6_2).f2))).setCell ⟨gb275, 3, none⟩ (.int .i64 ((rd_T35 l0 x6_2).f3))).setCell ⟨gb275, 4, none⟩ (.int .i64 ((rd_T35 l0 x6_2).f4))).setCell ⟨gb275, 5, none⟩ (.bool ((rd_T35 l0 x6_2).f5))).setCell ⟨gb275, 6, none⟩ (.bool ((rd_T35 l0 x6_2).f6)))) := ⟨by repeat (first | (with_reducible first | exact HB.out | apply below_alloc | apply pw_below_drewN | apply below_drew1 | refine below_set ?_ GE275.out) | exact HB.out)⟩
                        (try clear HO_7)
                        (try clear BK275)
                        (try clear HB)
                        generalize (((((((w17.setCell ⟨gb275, 0, none⟩ (.int .i64 ((rd_T35 l0 x6_2).f0))).setCell ⟨gb275, 1, none⟩ (.int .i64 ((rd_T35 l0 x6_2).f1))).setCell ⟨gb275, 2, none⟩ (.int .i64 ((rd_T35 l0 x6_2).f2))).setCell ⟨gb275, 3, none⟩ (.int .i64 ((rd_T35 l0 x6_2).f3))).setCell ⟨gb275, 4, none⟩ (.int .i64 ((rd_T35 l0 x6_2).f4))).setCell ⟨gb275, 5, none⟩ (.bool ((rd_T35 l0 x6_2).f5))).setCell ⟨gb275, 6, none⟩ (.bool ((rd_T35 l0 x6_2).f6))) = w19 at n0_ n1_ n2_ ⊢
                        have HO_7 := n0_
                        have BK275 := n1_
                        have HB := n2_
                        clear n0_ n1_ n2_
                        have n0_ := Aside0.mk (Kd.R_drew HO_7.out)
                        have n1_ := Aside0.mk (blk_drew BK275.out)
                        have n2_ := Aside0.mk (below_drew1 HB.out)
                        clear HO_7
                        clear BK275
                        clear HB
                        have HO_7 := n0_
                        have BK275 := n1_
                        have HB := n2_
                        clear n0_ n1_ n2_
                        have p276 : 0 ≤ (x8_2 : Int) := of_decide_eq_true (by first | (with_reducible assumption) | assumption)
                        have q276 : x8_2 < (t271.length : Int) := of_decide_eq_true (by first | (with_reducible assumption) | assumption)
                        obtain ⟨ad276, e276, hx276_0⟩ := Kd.at_int (Kd.R_reads' HO_7.out).2.2 x8_2 p276 q276
                        cases e276
                        replace p276 := eq_true p276
                        replace q276 := eq_true q276
                        refine start_ (n := 16) (S := fun w' => w'.cell? ⟨gb275, 0, none⟩ = some (.int .i64 ((rd_T35 l0 x6_2).f0)) ∧ w'.cell? ⟨gb275, 1, none⟩ = some (.int .i64 ((rd_T35 l0 x6_2).f1)) ∧ w'.cell? ⟨gb275, 2, none⟩ = some (.int .i64 ((rd_T35 l0 x6_2).f2)) ∧ w'.cell? ⟨gb275, 3, none⟩ = some (.int .i64 ((rd_T35 l0 x6_2).f3)) ∧ w'.cell? ⟨gb275, 4, none⟩ = some (.int .i64 ((rd_T35 l0 x6_2).f4)) ∧ w'.cell? ⟨gb275, 5, none⟩ = some (.bool ((rd_T35 l0 x6_2).f5)) ∧ w'.cell? ⟨gb275, 6, none⟩ = some (.bool ((rd_T35 l0 x6_2).f6)) ∧ w'.cell? (ad276.add (x8_2).toNat) = some (.int .i64 (rd t271 x8_2))) (ds := []) #[false, false, false, false, false, false, false, false, false, false, false, false, false, false, false, false] (by kernel_rfl) rfl rfl ⟨(blk_cell BK275.out 0).trans rfl, (blk_cell BK275.out 1).trans rfl, (blk_cell BK275.out 2).trans rfl, (blk_cell BK275.out 3).trans rfl, (blk_cell BK275.out 4).trans rfl, (blk_cell BK275.out 5).trans rfl, (blk_cell BK275.out 6).trans rfl, hx276_0⟩ (fun hHeld => ?_); refine with_tabW chicaneref39_Print.tab16 chicaneref39_Print.bits16 (fun HT_ HW_ => ?_)
                        generalize w19.drew = w20 at HO_7 BK275 HB hx276_0 hHeld ⊢
                        refine pure_ (i := 0) (N := some 41) (v := ?_) (a' := ?_) #[true, false, false, false, false, false, false, false, false, false, false, false, false, false, false, false] rfl rfl (any_of HT_.out (by kernel_rfl)) (fun _ _ _ h => h) (Or.inl ⟨by rfl, ?_⟩) ?_ ?_
                        rotate_left
                        · intro w'
                          go_simp
                          with_reducible rfl
                        rotate_left
                        · simp only [Act.put, List.setIfInBounds_toArray, List.set_cons_zero, List.set_cons_succ, i64_w, i32_w]
                          rfl
                        refine pure_ (i := 1) (N := some 42) (v := ?_) (a' := ?_) #[true, true, false, false, false, false, false, false, false, false, false, false, false, false, false, false] rfl rfl (any_of HT_.out (by kernel_rfl)) (fun _ _ _ h => h) (Or.inl ⟨by rfl, ?_⟩) ?_ ?_
                        rotate_left
                        · intro w'
                          go_simp
                          with_reducible rfl
                        rotate_left
                        · simp only [Act.put, List.setIfInBounds_toArray, List.set_cons_zero, List.set_cons_succ, i64_w, i32_w]
                          rfl
                        refine pure_ (i := 2) (N := some 43) (v := ?_) (a' := ?_) #[true, true, true, false, false, false, false, false, false, false, false, false, false, false, false, false] rfl rfl (any_of HT_.out (by kernel_rfl)) (fun _ _ _ h => h) (Or.inl ⟨by rfl, ?_⟩) ?_ ?_
                        rotate_left
                        · intro w'
                          go_simp
                          with_reducible rfl
                        rotate_left
                        · simp only [Act.put, List.setIfInBounds_toArray, List.set_cons_zero, List.set_cons_succ, i64_w, i32_w]
                          rfl
                        refine pure_ (i := 4) (N := some 45) (v := ?_) (a' := ?_) #[true, true, true, false, true, false, false, false, false, false, false, false, false, false, false, false] rfl rfl (any_of HT_.out (by kernel_rfl)) (fun _ _ _ h => h) (Or.inl ⟨by rfl, ?_⟩) ?_ ?_
                        rotate_left
                        · intro w'
                          go_simp
                          with_reducible rfl
                        rotate_left
                        · simp only [Act.put, List.setIfInBounds_toArray, List.set_cons_zero, List.set_cons_succ, i64_w, i32_w]
                          rfl
                        refine pure_ (i := 6) (N := some 47) (v := ?_) (a' := ?_) #[true, true, true, false, true, false, true, false, false, false, false, false, false, false, false, false] rfl rfl (any_of HT_.out (by kernel_rfl)) (fun _ _ _ h => h) (Or.inl ⟨by rfl, ?_⟩) ?_ ?_
                        rotate_left
                        · intro w'
                          go_simp
                          with_reducible rfl
                        rotate_left
                        · simp only [Act.put, List.setIfInBounds_toArray, List.set_cons_zero, List.set_cons_succ, i64_w, i32_w]
                          rfl
                        refine pure_ (i := 8) (N := some 49) (v := ?_) (a' := ?_) #[true, true, true, false, true, false, true, false, true, false, false, false, false, false, false, false] rfl rfl (any_of HT_.out (by kernel_rfl)) (fun _ _ _ h => h) (Or.inl ⟨by rfl, ?_⟩) ?_ ?_
                        rotate_left
                        · intro w'
                          go_simp
                          with_reducible rfl
                        rotate_left
                        · simp only [Act.put, List.setIfInBounds_toArray, List.set_cons_zero, List.set_cons_succ, i64_w, i32_w]
                          rfl
                        refine pure_ (i := 10) (N := some 51) (v := ?_) (a' := ?_) #[true, true, true, false, true, false, true, false, true, false, true, false, false, false, false, false] rfl rfl (any_of HT_.out (by kernel_rfl)) (fun _ _ _ h => h) (Or.inl ⟨by rfl, ?_⟩) ?_ ?_
                        rotate_left
                        · intro w'
                          go_simp
                          with_reducible rfl
                        rotate_left
                        · simp only [Act.put, List.setIfInBounds_toArray, List.set_cons_zero, List.set_cons_succ, i64_w, i32_w]
                          rfl
                        refine pure_ (i := 12) (N := some 53) (v := ?_) (a' := ?_) #[true, true, true, false, true, false, true, false, true, false, true, false, true, false, false, false] rfl rfl (any_of HT_.out (by kernel_rfl)) (fun _ _ _ h => h) (Or.inl ⟨by rfl, ?_⟩) ?_ ?_
                        rotate_left
                        · intro w'
                          go_simp
                          with_reducible rfl
                        rotate_left
                        · simp only [Act.put, List.setIfInBounds_toArray, List.set_cons_zero, List.set_cons_succ, i64_w, i32_w]
                          rfl
                        refine take_ (i := 3) (N := some 44) (v := ?_) (a' := ?_) #[true, true, true, true, true, false, true, false, true, false, true, false, true, false, false, false] rfl rfl (take_ofW HT_.out HW_.out (by kernel_rfl)) (fun _ _ _ h => h) (Or.inl ⟨by rfl, ?_⟩) hHeld ?_ ?_
                        rotate_left
                        · rintro w' ⟨s0, s1, s2, s3, s4, s5, s6, s7⟩
                          go_simp
                          with_reducible rfl
                        rotate_left
                        · simp only [Act.put, List.setIfInBounds_toArray, List.set_cons_zero, List.set_cons_succ, i64_w, i32_w]
                          rfl
                        refine take_ (i := 5) (N := some 46) (v := ?_) (a' := ?_) #[true, true, true, true, true, true, true, false, true, false, true, false, true, false, false, false] rfl rfl (take_ofW HT_.out HW_.out (by kernel_rfl)) (fun _ _ _ h => h) (Or.inl ⟨by rfl, ?_⟩) hHeld ?_ ?_
                        rotate_left
                        · rintro w' ⟨s0, s1, s2, s3, s4, s5, s6, s7⟩
                          go_simp
                          with_reducible rfl
                        rotate_left
                        · simp only [Act.put, List.setIfInBounds_toArray, List.set_cons_zero, List.set_cons_succ, i64_w, i32_w]
                          rfl
                        refine take_ (i := 7) (N := some 48) (v := ?_) (a' := ?_) #[true, true, true, true, true, true, true, true, true, false, true, false, true, false, false, false] rfl rfl (take_ofW HT_.out HW_.out (by kernel_rfl)) (fun _ _ _ h => h) (Or.inl ⟨by rfl, ?_⟩) hHeld ?_ ?_
                        rotate_left
                        · rintro w' ⟨s0, s1, s2, s3, s4, s5, s6, s7⟩
                          go_simp
                          with_reducible rfl
                        rotate_left
                        · simp only [Act.put, List.setIfInBounds_toArray, List.set_cons_zero, List.set_cons_succ, i64_w, i32_w]
                          rfl
                        refine take_ (i := 9) (N := some 50) (v := ?_) (a' := ?_) #[true, true, true, true, true, true, true, true, true, true, true, false, true, false, false, false] rfl rfl (take_ofW HT_.out HW_.out (by kernel_rfl)) (fun _ _ _ h => h) (Or.inl ⟨by rfl, ?_⟩) hHeld ?_ ?_
                        rotate_left
                        · rintro w' ⟨s0, s1, s2, s3, s4, s5, s6, s7⟩
                          go_simp
                          with_reducible rfl
                        rotate_left
                        · simp only [Act.put, List.setIfInBounds_toArray, List.set_cons_zero, List.set_cons_succ, i64_w, i32_w]
                          rfl
                        refine take_ (i := 11) (N := some 52) (v := ?_) (a' := ?_) #[true, true, true, true, true, true, true, true, true, true, true, true, true, false, false, false] rfl rfl (take_ofW HT_.out HW_.out (by kernel_rfl)) (fun _ _ _ h => h) (Or.inl ⟨by rfl, ?_⟩) hHeld ?_ ?_
                        rotate_left
                        · rintro w' ⟨s0, s1, s2, s3, s4, s5, s6, s7⟩
                          go_simp
                          with_reducible rfl
                        rotate_left
                        · simp only [Act.put, List.setIfInBounds_toArray, List.set_cons_zero, List.set_cons_succ, i64_w, i32_w]
                          rfl
                        refine take_ (i := 13) (N := some 54) (v := ?_) (a' := ?_) #[true, true, true, true, true, true, true, true, true, true, true, true, true, true, false, false] rfl rfl (take_ofW HT_.out HW_.out (by kernel_rfl)) (fun _ _ _ h => h) (Or.inl ⟨by rfl, ?_⟩) hHeld ?_ ?_
                        rotate_left
                        · rintro w' ⟨s0, s1, s2, s3, s4, s5, s6, s7⟩
                          go_simp
                          with_reducible rfl
                        rotate_left
                        · simp only [Act.put, List.setIfInBounds_toArray, List.set_cons_zero, List.set_cons_succ, i64_w, i32_w]
                          rfl
                        refine one_ (i := 14) (N := some 55) #[true, true, true, true, true, true, true, true, true, true, true, true, true, true, true, false] rfl rfl (one_of HT_.out (by kernel_rfl)) (by decide) (fun K hK => ?_)
                        refine Kd.R_lit_step (Kd.int .i64) _ 3 ?hg (N := 55) ?hd (xs := ([rd t271 x8_2, (rd_T35 l0 x6_2).f0, (rd_T35 l0 x6_2).f1, (rd_T35 l0 x6_2).f2, (rd_T35 l0 x6_2).f3, (rd_T35 l0 x6_2).f4] : List Int)) (inner := [.int .i64 (rd t271 x8_2), .int .i64 ((rd_T35 l0 x6_2).f0), .int .i64 ((rd_T35 l0 x6_2).f1), .int .i64 ((rd_T35 l0 x6_2).f2), .int .i64 ((rd_T35 l0 x6_2).f3), .int .i64 ((rd_T35 l0 x6_2).f4)]) (ok := fun _ => True) (okp := fun _ => True) ?hr ?hp (fun _ hk => hk) trivial (Below.refl _ _) (Nat.le_refl _) (by simp) ?_; (case hd => rfl); (case hg => rfl); (case hr => first | (go_simp; done) | (go_simp; rfl)); (case hp => exact (Reps.one (show Kd.M (Kd.int .i64) _ _ _ (rd t271 x8_2) [.int .i64 (rd t271 x8_2)] from rfl) (Reps.one (show Kd.M (Kd.int .i64) _ _ _ ((rd_T35 l0 x6_2).f0) [.int .i64 ((rd_T35 l0 x6_2).f0)] from rfl) (Reps.one (show Kd.M (Kd.int .i64) _ _ _ ((rd_T35 l0 x6_2).f1) [.int .i64 ((rd_T35 l0 x6_2).f1)] from rfl) (Reps.one (show Kd.M (Kd.int .i64) _ _ _ ((rd_T35 l0 x6_2).f2) [.int .i64 ((rd_T35 l0 x6_2).f2)] from rfl) (Reps.one (show Kd.M (Kd.int .i64) _ _ _ ((rd_T35 l0 x6_2).f3) [.int .i64 ((rd_T35 l0 x6_2).f3)] from rfl) (Reps.one (show Kd.M (Kd.int .i64) _ _ _ ((rd_T35 l0 x6_2).f4) [.int .i64 ((rd_T35 l0 x6_2).f4)] from rfl) (Reps.none _ _))))))))
                        intro v278 w21 ho22 hb hg_ hnew_
                        have HS7_ := (hb.cell (World.block_lt_of_cell? _ _ (hHeld.2.2.2.2.2.2.2))).trans (hHeld.2.2.2.2.2.2.2)
                        clear hg_ hnew_
                        (first | rw [← Ny277.out] at ho22 | (simp only [Int.reduceToNat] at ho22; rw [← Ny277.out] at ho22))
                        have n0_ := Aside0.mk (Kd.R_elder' (by (with_reducible repeat (first | apply Kd.R_alloc | apply Kd.R_drewN | apply Kd.R_drew)); exact HO_7.out) (Kd.R_base ho22) hb)
                        have n1_ := Aside0.mk (Kd.R_lower (Kd.R_new' ho22 (Kd.R_lt (by (with_reducible repeat (first | apply Kd.R_alloc | apply Kd.R_drewN | apply Kd.R_drew)); exact HO_7.out))) (below_size (by repeat (first | (with_reducible first | exact HB.out | apply below_alloc | apply pw_below_drewN | apply below_drew1 | refine below_set ?_ GE275.out) | exact HB.out))))
                        have n2_ := Aside0.mk (blk_below (g := gb275) (o := .cells #[.int .i64 ((rd_T35 l0 x6_2).f0), .int .i64 ((rd_T35 l0 x6_2).f1), .int .i64 ((rd_T35 l0 x6_2).f2), .int .i64 ((rd_T35 l0 x6_2).f3), .int .i64 ((rd_T35 l0 x6_2).f4), .bool ((rd_T35 l0 x6_2).f5), .bool ((rd_T35 l0 x6_2).f6)] 35 (0, 0)) (by (with_reducible repeat (first | refine blk_drewN ?_ _ | refine blk_drew ?_ | refine blk_alloc ?_ _)); exact BK275.out) hb)
                        have n3_ := Aside0.mk (below_step (by repeat (first | (with_reducible first | exact HB.out | apply below_alloc | apply pw_below_drewN | apply below_drew1 | refine below_set ?_ GE275.out) | exact HB.out)) hb)
                        clear HO_7
                        clear BK275
                        clear HB
                        have HO_7 := n0_
                        have HO279 := n1_
                        have BK275 := n2_
                        have HB := n3_
                        clear n0_ n1_ n2_ n3_
                        clear hb ho22
                        refine hK.out _ _ ⟨(blk_cell BK275.out 0).trans rfl, (blk_cell BK275.out 1).trans rfl, (blk_cell BK275.out 2).trans rfl, (blk_cell BK275.out 3).trans rfl, (blk_cell BK275.out 4).trans rfl, (blk_cell BK275.out 5).trans rfl, (blk_cell BK275.out 6).trans rfl, HS7_⟩ (fun hHeld => ?_)
                        clear hK K
                        refine norm_ (a' := ?_) ?_ ?_
                        rotate_left
                        · show Act.put _ (some 55) _ = _
                          simp only [Act.put, List.setIfInBounds_toArray, List.set_cons_zero, List.set_cons_succ, i64_w, i32_w]
                          rfl
                        refine pure_ (i := 15) (N := some 10) (v := ?_) (a' := ?_) #[true, true, true, true, true, true, true, true, true, true, true, true, true, true, true, true] rfl rfl (any_of HT_.out (by kernel_rfl)) (fun _ _ _ h => h) (Or.inl ⟨by rfl, ?_⟩) ?_ ?_
                        rotate_left
                        · intro w'
                          go_simp
                          with_reducible rfl
                        rotate_left
                        · simp only [Act.put, List.setIfInBounds_toArray, List.set_cons_zero, List.set_cons_succ, i64_w, i32_w]
                          rfl
                        refine done_ (done_of HT_.out (by kernel_rfl)) ?_
                        try go_wp2
                        go_loopg [5, 11] k2 (fun kq v5 v11 w' => ∃ (x5_3 : ByteArray) (x11_3 : Int), v5 = .string x5_3 ∧ v11 = .int .i64 x11_3 ∧ Aside0 (chicaneref39_Print.l2 kq l0 x5_3 x6_2 t271 x8_2 y277 x11_3 ((rd_T35 l0 x6_2).f0) ((rd_T35 l0 x6_2).f1) ((rd_T35 l0 x6_2).f2) ((rd_T35 l0 x6_2).f3) ((rd_T35 l0 x6_2).f4) ((rd_T35 l0 x6_2).f5) ((rd_T35 l0 x6_2).f6) = some (r1, r2)) ∧ Aside0 (kq ≤ k2) ∧ Aside0 (Kd.R (Kd.int .i64) 3 w' w.heap.size (fun k_ => some k_ ≠ (v278 : Value).ownBlock) (.slice (some ad276) t271.length co16) t271) ∧ Aside0 (Kd.R (Kd.int .i64) 3 w' w.heap.size (fun k_ => some k_ ≠ ((.slice (some ad276) t271.length co16) : Value).ownBlock) v278 y277) ∧ Aside0 (w'.heap[gb275]? = some (.cells #[.int .i64 ((rd_T35 l0 x6_2).f0), .int .i64 ((rd_T35 l0 x6_2).f1), .int .i64 ((rd_T35 l0 x6_2).f2), .int .i64 ((rd_T35 l0 x6_2).f3), .int .i64 ((rd_T35 l0 x6_2).f4), .bool ((rd_T35 l0 x6_2).f5), .bool ((rd_T35 l0 x6_2).f6)] 35 (0, 0))) ∧ Aside0 (Below w.heap.size w w'))
                        case atStart => exact ⟨(x5_2 ++ (⟨#[100, 111]⟩ : ByteArray)), (0), (by first | rfl | (simp; done) | (simp [*]; done)), (by first | rfl | (simp; done) | (simp [*]; done)), H', ⟨Nat.le_refl _⟩, ⟨by (with_reducible repeat (first | apply Kd.R_alloc | apply Kd.R_drewN | apply Kd.R_drew)); exact Kd.R_mono HO_7.out (fun _ hk => hk.2)⟩, ⟨by (with_reducible repeat (first | apply Kd.R_alloc | apply Kd.R_drewN | apply Kd.R_drew)); exact Kd.R_mono HO279.out (fun _ hk => hk.2)⟩, ⟨by (with_reducible repeat (first | refine blk_drewN ?_ _ | refine blk_drew ?_ | refine blk_alloc ?_ _)); exact BK275.out⟩, ⟨by repeat (first | (with_reducible first | exact HB.out | apply below_alloc | apply pw_below_drewN | apply below_drew1 | refine below_set ?_ GE275.out) | exact HB.out)⟩⟩
                        case round =>
                          clear H'
                          try clear c1
                          try clear c2
                          try clear c2b0
                          try clear c2b1
                          try clear p2
                          try clear q2
                          try clear hx2
                          try clear c3
                          try clear c3b0
                          try clear c4
                          try clear c4b0
                          try clear c6
                          try clear c6b0
                          try clear c6b1
                          try clear p6
                          try clear c11
                          try clear c11b0
                          try clear c12
                          try clear c12b0
                          try clear c13
                          try clear c13b0
                          try clear c14
                          try clear c14b0
                          try clear c14b1
                          try clear c14b2
                          try clear c15
                          try clear c15b0
                          try clear c17
                          try clear hcz18_0
                          try clear hcz18_1
                          try clear hcz18_2
                          try clear hcz18_3
                          try clear hcz18_4
                          try clear hcz18_5
                          try clear hcz18_6
                          try clear hfz18_0
                          try clear hfz18_1
                          try clear hfz18_2
                          try clear hfz18_3
                          try clear hfz18_4
                          try clear hfz18_5
                          try clear hfz18_6
                          try clear hx269_0
                          try clear hx269_1
                          try clear hx269_2
                          try clear hx269_3
                          try clear hx269_4
                          try clear hx269_5
                          try clear hx269_6
                          try clear hx274_0
                          try clear hx274_1
                          try clear hx274_2
                          try clear hx274_3
                          try clear hx274_4
                          try clear hx274_5
                          try clear hx274_6
                          try clear hx276_0
                          try clear p2
                          try clear p269
                          try clear p274
                          try clear p276
                          try clear p6
                          try clear q2
                          try clear q269
                          try clear q274
                          try clear q276
                          obtain ⟨x5_3, x11_3, rfl, rfl, HA, HK3, HO_7, HO_10, BK275, HB⟩ := hrel
                          cases gk with
                          | zero => exact absurd HA.out (by simp [chicaneref39_Print.l2])
                          | succ k3 =>
                            have H := HA.out
                            clear HA
                            simp only [chicaneref39_Print.l2] at H
                            by_cases c23 : x11_3 < 6
                            · rw [if_pos c23] at H
                              have c23b0 : decide (x11_3 < 6) = true := decide_eq_true c23
                              clear c23
                              by_cases c24 : 0 ≤ x11_3
                              · rw [if_pos c24] at H
                                have c24b0 : decide (0 ≤ x11_3) = true := decide_eq_true c24
                                clear c24
                                by_cases c25 : x11_3 < (y277.length : Int)
                                · rw [if_pos c25] at H
                                  have c25b0 : decide (x11_3 < (y277.length : Int)) = true := decide_eq_true c25
                                  clear c25
                                  replace H := Option.bind_eq_some_iff.mp H
                                  obtain ⟨t281, A260, H⟩ := H
                                  replace H : (if 1 + t281.size ≤ 9223372036854775807 then (if x5_3.size + ((⟨#[32]⟩ : ByteArray) ++ t281).size ≤ 9223372036854775807 then (chicaneref39_Print.l2 k3 l0 (x5_3 ++ ((⟨#[32]⟩ : ByteArray) ++ t281)) x6_2 t271 x8_2 y277 (wrap64 (x11_3 + 1)) ((rd_T35 l0 x6_2).f0) ((rd_T35 l0 x6_2).f1) ((rd_T35 l0 x6_2).f2) ((rd_T35 l0 x6_2).f3) ((rd_T35 l0 x6_2).f4) ((rd_T35 l0 x6_2).f5) ((rd_T35 l0 x6_2).f6)) else (none)) else (none)) = some (r1, r2) := H
                                  have A26 := Aside0.mk A260
                                  clear A260
                                  by_cases c27 : 1 + t281.size ≤ 9223372036854775807
                                  · rw [if_pos c27] at H
                                    have c27b0 := eq_true c27
                                    have c27b1 : decide (1 + t281.size ≤ 9223372036854775807) = true := decide_eq_true c27
                                    try have c27b2 : (9223372036854775807 < 1 + t281.size) = False := eq_false (Nat.not_lt.2 c27)
                                    by_cases c28 : x5_3.size + ((⟨#[32]⟩ : ByteArray) ++ t281).size ≤ 9223372036854775807
                                    · rw [if_pos c28] at H
                                      have c28b0 := eq_true c28
                                      have c28b1 : decide (x5_3.size + ((⟨#[32]⟩ : ByteArray) ++ t281).size ≤ 9223372036854775807) = true := decide_eq_true c28
                                      try have c28b2 : (9223372036854775807 < x5_3.size + ((⟨#[32]⟩ : ByteArray) ++ t281).size) = False := eq_false (Nat.not_lt.2 c28)
                                      have H' := Aside0.mk H
                                      clear H
                                      obtain ⟨Ao29, co29, eo29⟩ := Kd.R_slice HO_10.out
                                      subst eo29
                                      have p280 : 0 ≤ (x11_3 : Int) := of_decide_eq_true (by first | (with_reducible assumption) | assumption)
                                      have q280 : x11_3 < (y277.length : Int) := of_decide_eq_true (by first | (with_reducible assumption) | assumption)
                                      obtain ⟨ad280, e280, hx280_0⟩ := Kd.at_int (Kd.R_reads' HO_10.out).2.2 x11_3 p280 q280
                                      cases e280
                                      replace p280 := eq_true p280
                                      replace q280 := eq_true q280
                                      go_wp2_with (first | ((with_reducible refine gate_callee (f := 50) rfl ?_); refine goesL_ (some 65) rfl rfl Tryd.func50 (by kernel_rfl) rfl #[.int .i64 (rd y277 x11_3)] rfl (by (try simp only [List.map_toArray, List.map_cons, List.map_nil]); first | done | rfl | (simp only [List.length_drop, List.length_take]; rfl)) ?_; (with_reducible refine (chicaneref36_Whole.calls k3 (rd y277 x11_3) t281 _ A26.out).mono ?_); rintro e w30 ⟨rfl, hb⟩; refine ⟨_, rfl, ?_⟩; have n0_ := Aside0.mk (Kd.R_below (by (with_reducible repeat (first | apply Kd.R_alloc | apply Kd.R_drewN | apply Kd.R_drew)); exact HO_7.out) hb); have n1_ := Aside0.mk (Kd.R_below (by (with_reducible repeat (first | apply Kd.R_alloc | apply Kd.R_drewN | apply Kd.R_drew)); exact HO_10.out) hb); have n2_ := Aside0.mk (blk_below (g := gb275) (o := .cells #[.int .i64 ((rd_T35 l0 x6_2).f0), .int .i64 ((rd_T35 l0 x6_2).f1), .int .i64 ((rd_T35 l0 x6_2).f2), .int .i64 ((rd_T35 l0 x6_2).f3), .int .i64 ((rd_T35 l0 x6_2).f4), .bool ((rd_T35 l0 x6_2).f5), .bool ((rd_T35 l0 x6_2).f6)] 35 (0, 0)) (by (with_reducible repeat (first | refine blk_drewN ?_ _ | refine blk_drew ?_ | refine blk_alloc ?_ _)); exact BK275.out) hb); have n3_ := Aside0.mk (below_step (by repeat (first | (with_reducible first | exact HB.out | apply below_alloc | apply pw_below_drewN | apply below_drew1 | refine below_set ?_ GE275.out) | exact HB.out)) hb); clear HO_7; clear HO_10; clear BK275; clear HB; have HO_7 := n0_; have HO_10 := n1_; have BK275 := n2_; have HB := n3_; clear n0_ n1_ n2_ n3_; (try clear hb); (try clear hb2); (try clear hk); (try clear hi)))
                                      go_roundg k3
                                      case measure => have := HK1.out; have := HK2.out; have := HK3.out; omega
                                      case rel => exact ⟨(x5_3 ++ ((⟨#[32]⟩ : ByteArray) ++ t281)), (wrap64 (x11_3 + 1)), (by first | rfl | (simp; done) | (simp [*]; done)), (by first | rfl | (simp; done) | (simp [*]; done)), H', ⟨by have := HK1.out; have := HK2.out; have := HK3.out; omega⟩, ⟨by (with_reducible repeat (first | apply Kd.R_alloc | apply Kd.R_drewN | apply Kd.R_drew)); exact HO_7.out⟩, ⟨by (with_reducible repeat (first | apply Kd.R_alloc | apply Kd.R_drewN | apply Kd.R_drew)); exact HO_10.out⟩, ⟨by (with_reducible repeat (first | refine blk_drewN ?_ _ | refine blk_drew ?_ | refine blk_alloc ?_ _)); exact BK275.out⟩, ⟨by repeat (first | (with_reducible first | exact HB.out | apply below_alloc | apply pw_below_drewN | apply below_drew1 | refine below_set ?_ GE275.out) | exact HB.out)⟩⟩
                                    · rw [if_neg c28] at H
                                      exact absurd H (by simp)
                                  · rw [if_neg c27] at H
                                    exact absurd H (by simp)
                                · rw [if_neg c25] at H
                                  exact absurd H (by simp)
                              · rw [if_neg c24] at H
                                exact absurd H (by simp)
                            · rw [if_neg c23] at H
                              have c23b0 : decide (x11_3 < 6) = false := decide_eq_false c23
                              clear c23
                              by_cases c31 : ((rd_T35 l0 x6_2).f5) = true
                              · rw [if_pos c31] at H
                                have c31b0 : ((rd_T35 l0 x6_2).f5) = true := c31
                                clear c31
                                by_cases c32 : x5_3.size + 5 ≤ 9223372036854775807
                                · rw [if_pos c32] at H
                                  have c32b0 := eq_true c32
                                  have c32b1 : decide (x5_3.size + 5 ≤ 9223372036854775807) = true := decide_eq_true c32
                                  try have c32b2 : (9223372036854775807 < x5_3.size + 5) = False := eq_false (Nat.not_lt.2 c32)
                                  by_cases c33 : ((rd_T35 l0 x6_2).f6) = true
                                  · rw [if_pos c33] at H
                                    have c33b0 : ((rd_T35 l0 x6_2).f6) = true := c33
                                    clear c33
                                    by_cases c34 : (x5_3 ++ (⟨#[32, 97, 117, 116, 111]⟩ : ByteArray)).size + 6 ≤ 9223372036854775807
                                    · rw [if_pos c34] at H
                                      have c34b0 := eq_true c34
                                      have c34b1 : decide ((x5_3 ++ (⟨#[32, 97, 117, 116, 111]⟩ : ByteArray)).size + 6 ≤ 9223372036854775807) = true := decide_eq_true c34
                                      try have c34b2 : (9223372036854775807 < (x5_3 ++ (⟨#[32, 97, 117, 116, 111]⟩ : ByteArray)).size + 6) = False := eq_false (Nat.not_lt.2 c34)
                                      have c34k : x5_3.size + 11 ≤ 9223372036854775807 := by
                                        have h0 := c34
                                        have h1 : (⟨#[32, 97, 117, 116, 111]⟩ : ByteArray).size = 5 := rfl
                                        have h2 : (⟨#[32, 114, 101, 115, 101, 116]⟩ : ByteArray).size = 6 := rfl
                                        simp only [ByteArray.size_append, h1, h2] at h0
                                        omega
                                      have c34m0 : (9223372036854775807 < x5_3.size + 5 + 6) = False := eq_false (by omega)
                                      have c34m1 : (9223372036854775807 < x5_3.size + 11) = False := eq_false (by omega)
                                      have c34m2 : (9223372036854775796 < x5_3.size) = False := eq_false (by omega)
                                      have c34m3 : (9223372036854775797 ≤ x5_3.size) = False := eq_false (by omega)
                                      have c34m4 : (9223372036854775807 < x5_3.size + 5 + 6) = False := eq_false (by omega)
                                      clear c34k
                                      by_cases c35 : ((x5_3 ++ (⟨#[32, 97, 117, 116, 111]⟩ : ByteArray)) ++ (⟨#[32, 114, 101, 115, 101, 116]⟩ : ByteArray)).size + 1 ≤ 9223372036854775807
                                      · rw [if_pos c35] at H
                                        have c35b0 := eq_true c35
                                        have c35b1 : decide (((x5_3 ++ (⟨#[32, 97, 117, 116, 111]⟩ : ByteArray)) ++ (⟨#[32, 114, 101, 115, 101, 116]⟩ : ByteArray)).size + 1 ≤ 9223372036854775807) = true := decide_eq_true c35
                                        try have c35b2 : (9223372036854775807 < ((x5_3 ++ (⟨#[32, 97, 117, 116, 111]⟩ : ByteArray)) ++ (⟨#[32, 114, 101, 115, 101, 116]⟩ : ByteArray)).size + 1) = False := eq_false (Nat.not_lt.2 c35)
                                        have c35k : x5_3.size + 12 ≤ 9223372036854775807 := by
                                          have h0 := c35
                                          have h1 : (⟨#[32, 97, 117, 116, 111]⟩ : ByteArray).size = 5 := rfl
                                          have h2 : (⟨#[32, 114, 101, 115, 101, 116]⟩ : ByteArray).size = 6 := rfl
                                          simp only [ByteArray.size_append, h1, h2] at h0
                                          omega
                                        have c35m0 : (9223372036854775807 < x5_3.size + 5 + 6 + 1) = False := eq_false (by omega)
                                        have c35m1 : (9223372036854775807 < x5_3.size + 12) = False := eq_false (by omega)
                                        have c35m2 : (9223372036854775795 < x5_3.size) = False := eq_false (by omega)
                                        have c35m3 : (9223372036854775796 ≤ x5_3.size) = False := eq_false (by omega)
                                        have c35m4 : (9223372036854775807 < x5_3.size + 11 + 1) = False := eq_false (by omega)
                                        clear c35k
                                        by_cases c36 : 0 ≤ x8_2
                                        · rw [if_pos c36] at H
                                          have c36b0 : decide (0 ≤ x8_2) = true := decide_eq_true c36
                                          clear c36
                                          by_cases c37 : x8_2 < (t271.length : Int)
                                          · rw [if_pos c37] at H
                                            have c37b0 : decide (x8_2 < (t271.length : Int)) = true := decide_eq_true c37
                                            clear c37
                                            have H' := Aside0.mk H
                                            clear H
                                            have hcz38_0 : wr.cell? ⟨gb275, 0, none⟩ = some (.int .i64 ((rd_T35 l0 x6_2).f0)) := (blk_cell BK275.out 0).trans rfl
                                            have hcz38_1 : wr.cell? ⟨gb275, 1, none⟩ = some (.int .i64 ((rd_T35 l0 x6_2).f1)) := (blk_cell BK275.out 1).trans rfl
                                            have hcz38_2 : wr.cell? ⟨gb275, 2, none⟩ = some (.int .i64 ((rd_T35 l0 x6_2).f2)) := (blk_cell BK275.out 2).trans rfl
                                            have hcz38_3 : wr.cell? ⟨gb275, 3, none⟩ = some (.int .i64 ((rd_T35 l0 x6_2).f3)) := (blk_cell BK275.out 3).trans rfl
                                            have hcz38_4 : wr.cell? ⟨gb275, 4, none⟩ = some (.int .i64 ((rd_T35 l0 x6_2).f4)) := (blk_cell BK275.out 4).trans rfl
                                            have hcz38_5 : wr.cell? ⟨gb275, 5, none⟩ = some (.bool ((rd_T35 l0 x6_2).f5)) := (blk_cell BK275.out 5).trans rfl
                                            have hcz38_6 : wr.cell? ⟨gb275, 6, none⟩ = some (.bool ((rd_T35 l0 x6_2).f6)) := (blk_cell BK275.out 6).trans rfl
                                            have hfz38_0 := blk_frozen BK275.out 0
                                            have hfz38_1 := blk_frozen BK275.out 1
                                            have hfz38_2 := blk_frozen BK275.out 2
                                            have hfz38_3 := blk_frozen BK275.out 3
                                            have hfz38_4 := blk_frozen BK275.out 4
                                            have hfz38_5 := blk_frozen BK275.out 5
                                            have hfz38_6 := blk_frozen BK275.out 6
                                            have p282 : 0 ≤ (x8_2 : Int) := of_decide_eq_true (by first | (with_reducible assumption) | assumption)
                                            have q282 : x8_2 < (t271.length : Int) := of_decide_eq_true (by first | (with_reducible assumption) | assumption)
                                            obtain ⟨ad282, e282, hx282_0⟩ := Kd.at_int (Kd.R_reads' HO_7.out).2.2 x8_2 p282 q282
                                            obtain rfl : ad276 = ad282 := (by injection e282)
                                            replace p282 := eq_true p282
                                            replace q282 := eq_true q282
                                            go_wp2
                                            go_roundg k3
                                            case measure => have := HK1.out; have := HK2.out; have := HK3.out; omega
                                            case rel => exact ⟨(((x5_3 ++ (⟨#[32, 97, 117, 116, 111]⟩ : ByteArray)) ++ (⟨#[32, 114, 101, 115, 101, 116]⟩ : ByteArray)) ++ (⟨#[10]⟩ : ByteArray)), (wrap64 (x6_2 + (rd t271 x8_2))), (wrap64 (x8_2 + 1)), (by first | rfl | (simp; done) | (simp [*]; done)), (by first | rfl | (simp; done) | (simp [*]; done)), (by first | rfl | (simp; done) | (simp [*]; done)), H', ⟨by have := HK1.out; have := HK2.out; have := HK3.out; omega⟩, ⟨by (with_reducible repeat (first | apply Kd.R_alloc | apply Kd.R_drewN | apply Kd.R_drew)); exact Kd.R_mono HO_7.out (fun _ hk => trivial)⟩, ⟨by repeat (first | (with_reducible first | exact HB.out | apply below_alloc | apply pw_below_drewN | apply below_drew1 | refine below_set ?_ GE275.out) | exact HB.out)⟩⟩
                                          · rw [if_neg c37] at H
                                            exact absurd H (by simp)
                                        · rw [if_neg c36] at H
                                          exact absurd H (by simp)
                                      · rw [if_neg c35] at H
                                        exact absurd H (by simp)
                                    · rw [if_neg c34] at H
                                      exact absurd H (by simp)
                                  · rw [if_neg c33] at H
                                    have c33b0 : ((rd_T35 l0 x6_2).f6) = false := by simpa using c33
                                    clear c33
                                    by_cases c39 : (x5_3 ++ (⟨#[32, 97, 117, 116, 111]⟩ : ByteArray)).size + 1 ≤ 9223372036854775807
                                    · rw [if_pos c39] at H
                                      have c39b0 := eq_true c39
                                      have c39b1 : decide ((x5_3 ++ (⟨#[32, 97, 117, 116, 111]⟩ : ByteArray)).size + 1 ≤ 9223372036854775807) = true := decide_eq_true c39
                                      try have c39b2 : (9223372036854775807 < (x5_3 ++ (⟨#[32, 97, 117, 116, 111]⟩ : ByteArray)).size + 1) = False := eq_false (Nat.not_lt.2 c39)
                                      have c39k : x5_3.size + 6 ≤ 9223372036854775807 := by
                                        have h0 := c39
                                        have h1 : (⟨#[32, 97, 117, 116, 111]⟩ : ByteArray).size = 5 := rfl
                                        have h2 : (⟨#[32, 114, 101, 115, 101, 116]⟩ : ByteArray).size = 6 := rfl
                                        simp only [ByteArray.size_append, h1, h2] at h0
                                        omega
                                      have c39m0 : (9223372036854775807 < x5_3.size + 5 + 1) = False := eq_false (by omega)
                                      have c39m1 : (9223372036854775807 < x5_3.size + 6) = False := eq_false (by omega)
                                      have c39m2 : (9223372036854775801 < x5_3.size) = False := eq_false (by omega)
                                      have c39m3 : (9223372036854775802 ≤ x5_3.size) = False := eq_false (by omega)
                                      have c39m4 : (9223372036854775807 < x5_3.size + 5 + 1) = False := eq_false (by omega)
                                      clear c39k
                                      by_cases c40 : 0 ≤ x8_2
                                      · rw [if_pos c40] at H
                                        have c40b0 : decide (0 ≤ x8_2) = true := decide_eq_true c40
                                        clear c40
                                        by_cases c41 : x8_2 < (t271.length : Int)
                                        · rw [if_pos c41] at H
                                          have c41b0 : decide (x8_2 < (t271.length : Int)) = true := decide_eq_true c41
                                          clear c41
                                          have H' := Aside0.mk H
                                          clear H
                                          have hcz42_0 : wr.cell? ⟨gb275, 0, none⟩ = some (.int .i64 ((rd_T35 l0 x6_2).f0)) := (blk_cell BK275.out 0).trans rfl
                                          have hcz42_1 : wr.cell? ⟨gb275, 1, none⟩ = some (.int .i64 ((rd_T35 l0 x6_2).f1)) := (blk_cell BK275.out 1).trans rfl
                                          have hcz42_2 : wr.cell? ⟨gb275, 2, none⟩ = some (.int .i64 ((rd_T35 l0 x6_2).f2)) := (blk_cell BK275.out 2).trans rfl
                                          have hcz42_3 : wr.cell? ⟨gb275, 3, none⟩ = some (.int .i64 ((rd_T35 l0 x6_2).f3)) := (blk_cell BK275.out 3).trans rfl
                                          have hcz42_4 : wr.cell? ⟨gb275, 4, none⟩ = some (.int .i64 ((rd_T35 l0 x6_2).f4)) := (blk_cell BK275.out 4).trans rfl
                                          have hcz42_5 : wr.cell? ⟨gb275, 5, none⟩ = some (.bool ((rd_T35 l0 x6_2).f5)) := (blk_cell BK275.out 5).trans rfl
                                          have hcz42_6 : wr.cell? ⟨gb275, 6, none⟩ = some (.bool ((rd_T35 l0 x6_2).f6)) := (blk_cell BK275.out 6).trans rfl
                                          have hfz42_0 := blk_frozen BK275.out 0
                                          have hfz42_1 := blk_frozen BK275.out 1
                                          have hfz42_2 := blk_frozen BK275.out 2
                                          have hfz42_3 := blk_frozen BK275.out 3
                                          have hfz42_4 := blk_frozen BK275.out 4
                                          have hfz42_5 := blk_frozen BK275.out 5
                                          have hfz42_6 := blk_frozen BK275.out 6
                                          have p283 : 0 ≤ (x8_2 : Int) := of_decide_eq_true (by first | (with_reducible assumption) | assumption)
                                          have q283 : x8_2 < (t271.length : Int) := of_decide_eq_true (by first | (with_reducible assumption) | assumption)
                                          obtain ⟨ad283, e283, hx283_0⟩ := Kd.at_int (Kd.R_reads' HO_7.out).2.2 x8_2 p283 q283
                                          obtain rfl : ad276 = ad283 := (by injection e283)
                                          replace p283 := eq_true p283
                                          replace q283 := eq_true q283
                                          go_wp2
                                          go_roundg k3
                                          case measure => have := HK1.out; have := HK2.out; have := HK3.out; omega
                                          case rel => exact ⟨((x5_3 ++ (⟨#[32, 97, 117, 116, 111]⟩ : ByteArray)) ++ (⟨#[10]⟩ : ByteArray)), (wrap64 (x6_2 + (rd t271 x8_2))), (wrap64 (x8_2 + 1)), (by first | rfl | (simp; done) | (simp [*]; done)), (by first | rfl | (simp; done) | (simp [*]; done)), (by first | rfl | (simp; done) | (simp [*]; done)), H', ⟨by have := HK1.out; have := HK2.out; have := HK3.out; omega⟩, ⟨by (with_reducible repeat (first | apply Kd.R_alloc | apply Kd.R_drewN | apply Kd.R_drew)); exact Kd.R_mono HO_7.out (fun _ hk => trivial)⟩, ⟨by repeat (first | (with_reducible first | exact HB.out | apply below_alloc | apply pw_below_drewN | apply below_drew1 | refine below_set ?_ GE275.out) | exact HB.out)⟩⟩
                                        · rw [if_neg c41] at H
                                          exact absurd H (by simp)
                                      · rw [if_neg c40] at H
                                        exact absurd H (by simp)
                                    · rw [if_neg c39] at H
                                      exact absurd H (by simp)
                                · rw [if_neg c32] at H
                                  exact absurd H (by simp)
                              · rw [if_neg c31] at H
                                have c31b0 : ((rd_T35 l0 x6_2).f5) = false := by simpa using c31
                                clear c31
                                by_cases c43 : ((rd_T35 l0 x6_2).f6) = true
                                · rw [if_pos c43] at H
                                  have c43b0 : ((rd_T35 l0 x6_2).f6) = true := c43
                                  clear c43
                                  by_cases c44 : x5_3.size + 6 ≤ 9223372036854775807
                                  · rw [if_pos c44] at H
                                    have c44b0 := eq_true c44
                                    have c44b1 : decide (x5_3.size + 6 ≤ 9223372036854775807) = true := decide_eq_true c44
                                    try have c44b2 : (9223372036854775807 < x5_3.size + 6) = False := eq_false (Nat.not_lt.2 c44)
                                    by_cases c45 : (x5_3 ++ (⟨#[32, 114, 101, 115, 101, 116]⟩ : ByteArray)).size + 1 ≤ 9223372036854775807
                                    · rw [if_pos c45] at H
                                      have c45b0 := eq_true c45
                                      have c45b1 : decide ((x5_3 ++ (⟨#[32, 114, 101, 115, 101, 116]⟩ : ByteArray)).size + 1 ≤ 9223372036854775807) = true := decide_eq_true c45
                                      try have c45b2 : (9223372036854775807 < (x5_3 ++ (⟨#[32, 114, 101, 115, 101, 116]⟩ : ByteArray)).size + 1) = False := eq_false (Nat.not_lt.2 c45)
                                      have c45k : x5_3.size + 7 ≤ 9223372036854775807 := by
                                        have h0 := c45
                                        have h1 : (⟨#[32, 97, 117, 116, 111]⟩ : ByteArray).size = 5 := rfl
                                        have h2 : (⟨#[32, 114, 101, 115, 101, 116]⟩ : ByteArray).size = 6 := rfl
                                        simp only [ByteArray.size_append, h1, h2] at h0
                                        omega
                                      have c45m0 : (9223372036854775807 < x5_3.size + 6 + 1) = False := eq_false (by omega)
                                      have c45m1 : (9223372036854775807 < x5_3.size + 7) = False := eq_false (by omega)
                                      have c45m2 : (9223372036854775800 < x5_3.size) = False := eq_false (by omega)
                                      have c45m3 : (9223372036854775801 ≤ x5_3.size) = False := eq_false (by omega)
                                      have c45m4 : (9223372036854775807 < x5_3.size + 6 + 1) = False := eq_false (by omega)
                                      clear c45k
                                      by_cases c46 : 0 ≤ x8_2
                                      · rw [if_pos c46] at H
                                        have c46b0 : decide (0 ≤ x8_2) = true := decide_eq_true c46
                                        clear c46
                                        by_cases c47 : x8_2 < (t271.length : Int)
                                        · rw [if_pos c47] at H
                                          have c47b0 : decide (x8_2 < (t271.length : Int)) = true := decide_eq_true c47
                                          clear c47
                                          have H' := Aside0.mk H
                                          clear H
                                          have hcz48_0 : wr.cell? ⟨gb275, 0, none⟩ = some (.int .i64 ((rd_T35 l0 x6_2).f0)) := (blk_cell BK275.out 0).trans rfl
                                          have hcz48_1 : wr.cell? ⟨gb275, 1, none⟩ = some (.int .i64 ((rd_T35 l0 x6_2).f1)) := (blk_cell BK275.out 1).trans rfl
                                          have hcz48_2 : wr.cell? ⟨gb275, 2, none⟩ = some (.int .i64 ((rd_T35 l0 x6_2).f2)) := (blk_cell BK275.out 2).trans rfl
                                          have hcz48_3 : wr.cell? ⟨gb275, 3, none⟩ = some (.int .i64 ((rd_T35 l0 x6_2).f3)) := (blk_cell BK275.out 3).trans rfl
                                          have hcz48_4 : wr.cell? ⟨gb275, 4, none⟩ = some (.int .i64 ((rd_T35 l0 x6_2).f4)) := (blk_cell BK275.out 4).trans rfl
                                          have hcz48_5 : wr.cell? ⟨gb275, 5, none⟩ = some (.bool ((rd_T35 l0 x6_2).f5)) := (blk_cell BK275.out 5).trans rfl
                                          have hcz48_6 : wr.cell? ⟨gb275, 6, none⟩ = some (.bool ((rd_T35 l0 x6_2).f6)) := (blk_cell BK275.out 6).trans rfl
                                          have hfz48_0 := blk_frozen BK275.out 0
                                          have hfz48_1 := blk_frozen BK275.out 1
                                          have hfz48_2 := blk_frozen BK275.out 2
                                          have hfz48_3 := blk_frozen BK275.out 3
                                          have hfz48_4 := blk_frozen BK275.out 4
                                          have hfz48_5 := blk_frozen BK275.out 5
                                          have hfz48_6 := blk_frozen BK275.out 6
                                          have p284 : 0 ≤ (x8_2 : Int) := of_decide_eq_true (by first | (with_reducible assumption) | assumption)
                                          have q284 : x8_2 < (t271.length : Int) := of_decide_eq_true (by first | (with_reducible assumption) | assumption)
                                          obtain ⟨ad284, e284, hx284_0⟩ := Kd.at_int (Kd.R_reads' HO_7.out).2.2 x8_2 p284 q284
                                          obtain rfl : ad276 = ad284 := (by injection e284)
                                          replace p284 := eq_true p284
                                          replace q284 := eq_true q284
                                          go_wp2
                                          go_roundg k3
                                          case measure => have := HK1.out; have := HK2.out; have := HK3.out; omega
                                          case rel => exact ⟨((x5_3 ++ (⟨#[32, 114, 101, 115, 101, 116]⟩ : ByteArray)) ++ (⟨#[10]⟩ : ByteArray)), (wrap64 (x6_2 + (rd t271 x8_2))), (wrap64 (x8_2 + 1)), (by first | rfl | (simp; done) | (simp [*]; done)), (by first | rfl | (simp; done) | (simp [*]; done)), (by first | rfl | (simp; done) | (simp [*]; done)), H', ⟨by have := HK1.out; have := HK2.out; have := HK3.out; omega⟩, ⟨by (with_reducible repeat (first | apply Kd.R_alloc | apply Kd.R_drewN | apply Kd.R_drew)); exact Kd.R_mono HO_7.out (fun _ hk => trivial)⟩, ⟨by repeat (first | (with_reducible first | exact HB.out | apply below_alloc | apply pw_below_drewN | apply below_drew1 | refine below_set ?_ GE275.out) | exact HB.out)⟩⟩
                                        · rw [if_neg c47] at H
                                          exact absurd H (by simp)
                                      · rw [if_neg c46] at H
                                        exact absurd H (by simp)
                                    · rw [if_neg c45] at H
                                      exact absurd H (by simp)
                                  · rw [if_neg c44] at H
                                    exact absurd H (by simp)
                                · rw [if_neg c43] at H
                                  have c43b0 : ((rd_T35 l0 x6_2).f6) = false := by simpa using c43
                                  clear c43
                                  by_cases c49 : x5_3.size + 1 ≤ 9223372036854775807
                                  · rw [if_pos c49] at H
                                    have c49b0 := eq_true c49
                                    have c49b1 : decide (x5_3.size + 1 ≤ 9223372036854775807) = true := decide_eq_true c49
                                    try have c49b2 : (9223372036854775807 < x5_3.size + 1) = False := eq_false (Nat.not_lt.2 c49)
                                    by_cases c50 : 0 ≤ x8_2
                                    · rw [if_pos c50] at H
                                      have c50b0 : decide (0 ≤ x8_2) = true := decide_eq_true c50
                                      clear c50
                                      by_cases c51 : x8_2 < (t271.length : Int)
                                      · rw [if_pos c51] at H
                                        have c51b0 : decide (x8_2 < (t271.length : Int)) = true := decide_eq_true c51
                                        clear c51
                                        have H' := Aside0.mk H
                                        clear H
                                        have hcz52_0 : wr.cell? ⟨gb275, 0, none⟩ = some (.int .i64 ((rd_T35 l0 x6_2).f0)) := (blk_cell BK275.out 0).trans rfl
                                        have hcz52_1 : wr.cell? ⟨gb275, 1, none⟩ = some (.int .i64 ((rd_T35 l0 x6_2).f1)) := (blk_cell BK275.out 1).trans rfl
                                        have hcz52_2 : wr.cell? ⟨gb275, 2, none⟩ = some (.int .i64 ((rd_T35 l0 x6_2).f2)) := (blk_cell BK275.out 2).trans rfl
                                        have hcz52_3 : wr.cell? ⟨gb275, 3, none⟩ = some (.int .i64 ((rd_T35 l0 x6_2).f3)) := (blk_cell BK275.out 3).trans rfl
                                        have hcz52_4 : wr.cell? ⟨gb275, 4, none⟩ = some (.int .i64 ((rd_T35 l0 x6_2).f4)) := (blk_cell BK275.out 4).trans rfl
                                        have hcz52_5 : wr.cell? ⟨gb275, 5, none⟩ = some (.bool ((rd_T35 l0 x6_2).f5)) := (blk_cell BK275.out 5).trans rfl
                                        have hcz52_6 : wr.cell? ⟨gb275, 6, none⟩ = some (.bool ((rd_T35 l0 x6_2).f6)) := (blk_cell BK275.out 6).trans rfl
                                        have hfz52_0 := blk_frozen BK275.out 0
                                        have hfz52_1 := blk_frozen BK275.out 1
                                        have hfz52_2 := blk_frozen BK275.out 2
                                        have hfz52_3 := blk_frozen BK275.out 3
                                        have hfz52_4 := blk_frozen BK275.out 4
                                        have hfz52_5 := blk_frozen BK275.out 5
                                        have hfz52_6 := blk_frozen BK275.out 6
                                        have p285 : 0 ≤ (x8_2 : Int) := of_decide_eq_true (by first | (with_reducible assumption) | assumption)
                                        have q285 : x8_2 < (t271.length : Int) := of_decide_eq_true (by first | (with_reducible assumption) | assumption)
                                        obtain ⟨ad285, e285, hx285_0⟩ := Kd.at_int (Kd.R_reads' HO_7.out).2.2 x8_2 p285 q285
                                        obtain rfl : ad276 = ad285 := (by injection e285)
                                        replace p285 := eq_true p285
                                        replace q285 := eq_true q285
                                        go_wp2
                                        go_roundg k3
                                        case measure => have := HK1.out; have := HK2.out; have := HK3.out; omega
                                        case rel => exact ⟨(x5_3 ++ (⟨#[10]⟩ : ByteArray)), (wrap64 (x6_2 + (rd t271 x8_2))), (wrap64 (x8_2 + 1)), (by first | rfl | (simp; done) | (simp [*]; done)), (by first | rfl | (simp; done) | (simp [*]; done)), (by first | rfl | (simp; done) | (simp [*]; done)), H', ⟨by have := HK1.out; have := HK2.out; have := HK3.out; omega⟩, ⟨by (with_reducible repeat (first | apply Kd.R_alloc | apply Kd.R_drewN | apply Kd.R_drew)); exact Kd.R_mono HO_7.out (fun _ hk => trivial)⟩, ⟨by repeat (first | (with_reducible first | exact HB.out | apply below_alloc | apply pw_below_drewN | apply below_drew1 | refine below_set ?_ GE275.out) | exact HB.out)⟩⟩
                                      · rw [if_neg c51] at H
                                        exact absurd H (by simp)
                                    · rw [if_neg c50] at H
                                      exact absurd H (by simp)
                                  · rw [if_neg c49] at H
                                    exact absurd H (by simp)
                      · rw [if_neg c15] at H
                        exact absurd H (by simp)
                    · rw [if_neg c14] at H
                      exact absurd H (by simp)
                  · rw [if_neg c13] at H
                    exact absurd H (by simp)
                · rw [if_neg c12] at H
                  exact absurd H (by simp)
              · rw [if_neg c11] at H
                have c11b0 : decide (x8_2 < (t271.length : Int)) = false := decide_eq_false c11
                clear c11
                by_cases c53 : x5_2.size + 4 ≤ 9223372036854775807
                · rw [if_pos c53] at H
                  have c53b0 := eq_true c53
                  have c53b1 : decide (x5_2.size + 4 ≤ 9223372036854775807) = true := decide_eq_true c53
                  try have c53b2 : (9223372036854775807 < x5_2.size + 4) = False := eq_false (Nat.not_lt.2 c53)
                  simp only [Option.some.injEq, Prod.mk.injEq] at H
                  obtain ⟨rfl, rfl⟩ := H
                  obtain ⟨Ao54, co54, eo54⟩ := Kd.R_slice HO_7.out
                  subst eo54
                  go_wp2
                  go_ret2
                  exact ⟨by first | rfl | (simp [errW_none, errW_some] <;> rfl) | (simp [*, errW_none, errW_some] <;> rfl), by repeat (first | (with_reducible first | exact HB.out | apply below_alloc | apply pw_below_drewN | apply below_drew1) | exact HB.out)⟩
                · rw [if_neg c53] at H
                  exact absurd H (by simp)

end Go.Proofs.YtbhbpopebmdemaaDoor.PA
