-- printed by the kit's print.py for texts of this session's own, and turned by hand where it was wanted
import Derived.Test.YtbhbpopebmdemaaDoorPAx0
import Derived.Test.YtbhbpopebmdemaaDoorPAx10
import Derived.Test.YtbhbpopebmdemaaDoorPAx11
namespace Go.Proofs.YtbhbpopebmdemaaDoor.PA
open Go.RowKit Go.Proofs.YtbhbpopebmdemaaDoorW.PrintWords Go.Proofs.YtbhbpopebmdemaaDoorW.PrintLast Go.Proofs.YtbhbpopebmdemaaDoorW.PrintMore
attribute [local go_sem] max2_int min2_int max_two min_two max_three min_three max_four min_four   -- for this text's walks alone
set_option linter.unusedVariables false
set_option linter.unusedSimpArgs false

/-! ### chicaneref36_B_Int: function 78 -/
def chicaneref36_B_Int.j0 : Nat → Int → Int → Bool → List ByteArray → Int → Int → Int → Int → Option (Int × Int × Int × Int × Int)
  | 0, _, _, _, _, _, _, _, _ => none
  | k + 1, x9, x10, x32, x1000, x1001, x1002, x1003, x1004 => if x32 = true then (if 40 = 0 then (some (x9, x1001, x1002, x1003, x1004)) else ((chicaneref36_B_fail.f x1000 x1001 x1002 x1003 x1004 40 x1002).bind fun bt144 => (some (0, bt144.1, bt144.2.1, bt144.2.2.1, bt144.2.2.2)))) else (if x10 = 0 then (some (x9, x1001, x1002, x1003, x1004)) else ((chicaneref36_B_fail.f x1000 x1001 x1002 x1003 x1004 x10 x1002).bind fun bt148 => (some (0, bt148.1, bt148.2.1, bt148.2.2.1, bt148.2.2.2))))
def chicaneref36_B_Int.f (k : Nat) (s0_0 : List ByteArray) (s0_1 : Int) (s0_2 : Int) (s0_3 : Int) (s0_4 : Int) (a1 : ByteArray) (a2 : Int) (a3 : Int) : Option (Int × Int × Int × Int × Int) := if s0_3 = 0 then ((chicaneref36_ReadWhole.f k a1).bind fun bt142 => (if bt142.2 = 0 then (if bt142.1 < a2 then (chicaneref36_B_Int.j0 k bt142.1 bt142.2 true s0_0 s0_1 s0_2 s0_3 s0_4) else (chicaneref36_B_Int.j0 k bt142.1 bt142.2 (decide (bt142.1 > a3)) s0_0 s0_1 s0_2 s0_3 s0_4)) else (chicaneref36_B_Int.j0 k bt142.1 bt142.2 false s0_0 s0_1 s0_2 s0_3 s0_4))) else (some (0, s0_1, s0_2, s0_3, s0_4))
theorem chicaneref36_B_Int.mono_l : ∀ k, (∀ y0 y1 y2 y3 y4 y5 y6 y7, LeO (chicaneref36_B_Int.j0 k y0 y1 y2 y3 y4 y5 y6 y7) (chicaneref36_B_Int.j0 (k + 1) y0 y1 y2 y3 y4 y5 y6 y7))
  | 0 => fun _ _ _ _ _ _ _ _ r h => by simp [chicaneref36_B_Int.j0] at h
  | k + 1 => by
    have ih0 := chicaneref36_B_Int.mono_l k
    · intro y0 y1 y2 y3 y4 y5 y6 y7
      unfold chicaneref36_B_Int.j0
      repeat' first
      | (with_reducible exact ih0 _ _ _ _ _ _ _ _)
      | (with_reducible exact chicaneref36_ReadWhole.mono _ _)
      | (with_reducible exact LeO.refl _)
      | (with_reducible exact LeO.none _)
      | (with_reducible refine LeO.ite ?_ ?_)
      | (with_reducible refine LeO.bind ?_ (fun _ => ?_))
      | exact ih0 _ _ _ _ _ _ _ _
      | exact chicaneref36_ReadWhole.mono _ _
      | exact LeO.none _
      | refine LeO.ite ?_ ?_
      | refine LeO.bind ?_ (fun _ => ?_)
theorem chicaneref36_B_Int.mono : ∀ a0 a1 a2 a3 a4 a5 a6 a7 k, LeO (chicaneref36_B_Int.f k a0 a1 a2 a3 a4 a5 a6 a7) (chicaneref36_B_Int.f (k + 1) a0 a1 a2 a3 a4 a5 a6 a7) := by
  intro a0 a1 a2 a3 a4 a5 a6 a7 k
  have ih0 := chicaneref36_B_Int.mono_l k
  unfold chicaneref36_B_Int.f
  repeat' first
      | (with_reducible exact ih0 _ _ _ _ _ _ _ _)
      | (with_reducible exact chicaneref36_ReadWhole.mono _ _)
      | (with_reducible exact LeO.refl _)
      | (with_reducible exact LeO.none _)
      | (with_reducible refine LeO.ite ?_ ?_)
      | (with_reducible refine LeO.bind ?_ (fun _ => ?_))
      | exact ih0 _ _ _ _ _ _ _ _
      | exact chicaneref36_ReadWhole.mono _ _
      | exact LeO.none _
      | refine LeO.ite ?_ ?_
      | refine LeO.bind ?_ (fun _ => ?_)
set_option maxHeartbeats 8000000 in
set_option maxRecDepth 100000 in
theorem chicaneref36_B_Int.calls (k : Nat) (g : Nat) (s0_0 : List ByteArray) (s0_1 : Int) (s0_2 : Int) (s0_3 : Int) (s0_4 : Int) (a1 : ByteArray) (a2 : Int) (a3 : Int) (r1 : Int) (r2 : Int) (r3 : Int) (r4 : Int) (r5 : Int) (w0 w : World) (hI : IsS56 w0 w g s0_0 s0_1 s0_2 s0_3 s0_4) (hB : Below w0.heap.size w0 w) (h : chicaneref36_B_Int.f k s0_0 s0_1 s0_2 s0_3 s0_4 a1 a2 a3 = some (r1, r2, r3, r4, r5)) :
    Calls Tryd.prog 78 #[.pointer (some ⟨g, 0, none⟩), .string a1, .int .i64 a2, .int .i64 a3] w fun e w' => e = .returned (.int .i64 r1) ∧ IsS56 w0 w' g s0_0 r2 r3 r4 r5 ∧ Below w0.heap.size w0 w' ∧ KeepBut w w' g none := by
  have HI0 := Aside0.mk hI
  have HK := Aside0.mk (KeepBut.refl w g none)
  have HL := Aside0.mk hB.size
  clear hI
  have HW0 := Aside0.mk hB.size
  have HB := Aside0.mk hB
  clear hB
  have H : (if s0_3 = 0 then ((chicaneref36_ReadWhole.f k a1).bind fun bt142 => (if bt142.2 = 0 then (if bt142.1 < a2 then (chicaneref36_B_Int.j0 k bt142.1 bt142.2 true s0_0 s0_1 s0_2 s0_3 s0_4) else (chicaneref36_B_Int.j0 k bt142.1 bt142.2 (decide (bt142.1 > a3)) s0_0 s0_1 s0_2 s0_3 s0_4)) else (chicaneref36_B_Int.j0 k bt142.1 bt142.2 false s0_0 s0_1 s0_2 s0_3 s0_4))) else (some (0, s0_1, s0_2, s0_3, s0_4))) = some (r1, r2, r3, r4, r5) := h
  clear h
  by_cases c5 : s0_3 = 0
  · rw [if_pos c5] at H
    have c5b0 : (s0_3 == 0) = true := beq_iff_eq.mpr c5
    have c5b1 : (s0_3 != 0) = false := bne_eq_false_iff_eq.mpr c5
    clear c5
    replace H := Option.bind_eq_some_iff.mp H
    obtain ⟨⟨t142, t143⟩, A60, H⟩ := H
    replace H : (if t143 = 0 then (if t142 < a2 then (chicaneref36_B_Int.j0 k t142 t143 true s0_0 s0_1 s0_2 s0_3 s0_4) else (chicaneref36_B_Int.j0 k t142 t143 (decide (t142 > a3)) s0_0 s0_1 s0_2 s0_3 s0_4)) else (chicaneref36_B_Int.j0 k t142 t143 false s0_0 s0_1 s0_2 s0_3 s0_4)) = some (r1, r2, r3, r4, r5) := H
    have A6 := Aside0.mk A60
    clear A60
    have HC7 := Aside0.mk H
    clear H
    obtain ⟨ASz8_0, cSz8_0, HGz8, hgz8, HSz8_0⟩ := HI0.out
    have hcz8_0 := cellS56_0 HGz8
    have hcz8_1 := cellS56_1 HGz8
    have hcz8_2 := cellS56_2 HGz8
    have hcz8_3 := cellS56_3 HGz8
    have hcz8_4 := cellS56_4 HGz8
    have hfz8_1 := blk_frozen HGz8 1
    have hfz8_2 := blk_frozen HGz8 2
    have hfz8_3 := blk_frozen HGz8 3
    have hfz8_4 := blk_frozen HGz8 4
    clear HGz8 hgz8
    go_enter Tryd.func78, Tryd.ntmps78
    go_upto_region 4 with (first | ((with_reducible refine gate_callee (f := 21) rfl ?_); refine goesL_ (some 18) rfl rfl Tryd.func21 (by kernel_rfl) rfl #[.string a1] rfl (by (try simp only [List.map_toArray, List.map_cons, List.map_nil]); first | done | rfl | (simp only [List.length_drop, List.length_take]; rfl)) ?_; (with_reducible refine (chicaneref36_ReadWhole.calls k a1 t142 t143 _ A6.out).mono ?_); rintro e w' ⟨rfl, ⟨nd, rfl⟩⟩; refine ⟨_, rfl, ?_⟩))
    (try simp only [Act.put, List.setIfInBounds_toArray, List.set_cons_zero, List.set_cons_succ])
    go_cut [32] (fun v32 wc => ∃ (kq : Nat) (x32_6 : Bool), v32 = .bool x32_6 ∧ Aside0 (chicaneref36_B_Int.j0 kq t142 t143 x32_6 s0_0 s0_1 s0_2 s0_3 s0_4 = some (r1, r2, r3, r4, r5)) ∧ Aside0 (kq ≤ k) ∧ Aside0 (IsS56 w0 wc g s0_0 s0_1 s0_2 s0_3 s0_4) ∧ Aside0 (KeepBut w wc g none) ∧ Aside0 (Below w0.heap.size w0 wc))
    case first =>
      have H := HC7.out
      clear HC7
      by_cases c9 : t143 = 0
      · rw [if_pos c9] at H
        have c9b0 : (t143 == 0) = true := beq_iff_eq.mpr c9
        have c9b1 : (t143 != 0) = false := bne_eq_false_iff_eq.mpr c9
        clear c9
        (first | rw [c9b0] | (simp only [i64_w, i32_w]; rw [c9b0]) | skip)
        by_cases c10 : t142 < a2
        · rw [if_pos c10] at H
          have c10b0 : decide (t142 < a2) = true := decide_eq_true c10
          clear c10
          have H' := Aside0.mk H
          clear H
          go_wp2
          go_meet
          case rel => exact ⟨_, (true), (by first | rfl | (simp; done) | (simp [*]; done)), H', ⟨by first | omega | exact Nat.le_refl _⟩, ⟨by repeat (first | (with_reducible first | exact HI0.out | apply IsS56.alloc | apply IsS56.drewN | apply IsS56.drew | apply IsS56.set_1 | apply IsS56.set_2 | apply IsS56.set_3 | apply IsS56.set_4) | exact HI0.out)⟩, ⟨by repeat (first | (with_reducible first | exact HK.out | apply KeepBut.set_ | apply keep_drewN | apply keep_drew | apply keep_alloc) | exact HK.out)⟩, ⟨by repeat (first | (with_reducible first | exact HB.out | apply below_alloc | apply pw_below_drewN | apply below_drew1 | refine below_set ?_ (IsS56.ge HI0.out)) | exact HB.out)⟩⟩
        · rw [if_neg c10] at H
          have c10b0 : decide (t142 < a2) = false := decide_eq_false c10
          clear c10
          have H' := Aside0.mk H
          clear H
          go_wp2
          go_meet
          case rel => exact ⟨_, (decide (t142 > a3)), (by first | rfl | (simp; done) | (simp [*]; done)), H', ⟨by first | omega | exact Nat.le_refl _⟩, ⟨by repeat (first | (with_reducible first | exact HI0.out | apply IsS56.alloc | apply IsS56.drewN | apply IsS56.drew | apply IsS56.set_1 | apply IsS56.set_2 | apply IsS56.set_3 | apply IsS56.set_4) | exact HI0.out)⟩, ⟨by repeat (first | (with_reducible first | exact HK.out | apply KeepBut.set_ | apply keep_drewN | apply keep_drew | apply keep_alloc) | exact HK.out)⟩, ⟨by repeat (first | (with_reducible first | exact HB.out | apply below_alloc | apply pw_below_drewN | apply below_drew1 | refine below_set ?_ (IsS56.ge HI0.out)) | exact HB.out)⟩⟩
      · rw [if_neg c9] at H
        have c9b0 : (t143 == 0) = false := beq_eq_false_iff_ne.mpr c9
        have c9b1 : (t143 != 0) = true := bne_iff_ne.mpr c9
        (first | rw [c9b0] | (simp only [i64_w, i32_w]; rw [c9b0]) | skip)
        have H' := Aside0.mk H
        clear H
        go_wp2
        go_meet
        case rel => exact ⟨_, (false), (by first | rfl | (simp; done) | (simp [*]; done)), H', ⟨by first | omega | exact Nat.le_refl _⟩, ⟨by repeat (first | (with_reducible first | exact HI0.out | apply IsS56.alloc | apply IsS56.drewN | apply IsS56.drew | apply IsS56.set_1 | apply IsS56.set_2 | apply IsS56.set_3 | apply IsS56.set_4) | exact HI0.out)⟩, ⟨by repeat (first | (with_reducible first | exact HK.out | apply KeepBut.set_ | apply keep_drewN | apply keep_drew | apply keep_alloc) | exact HK.out)⟩, ⟨by repeat (first | (with_reducible first | exact HB.out | apply below_alloc | apply pw_below_drewN | apply below_drew1 | refine below_set ?_ (IsS56.ge HI0.out)) | exact HB.out)⟩⟩
    case rest =>
      clear HC7
      try clear c1
      try clear c2
      try clear p2
      try clear c5
      try clear c5b0
      try clear c5b1
      try clear c7
      try clear c9
      try clear c9b0
      try clear c9b1
      try clear c10
      try clear c10b0
      try clear hcz8_0
      try clear hcz8_1
      try clear hcz8_2
      try clear hcz8_3
      try clear hcz8_4
      try clear hfz8_1
      try clear hfz8_2
      try clear hfz8_3
      try clear hfz8_4
      obtain ⟨kq, x32_6, rfl, HA, HJ6, HI0, HK, HB⟩ := hcut
      cases kq with
      | zero => exact absurd HA.out (by simp [chicaneref36_B_Int.j0])
      | succ kj6 =>
        have H := HA.out
        clear HA
        simp only [chicaneref36_B_Int.j0] at H
        by_cases c11 : x32_6 = true
        · subst c11
          have H1 : (if 40 = 0 then (some (t142, s0_1, s0_2, s0_3, s0_4)) else ((chicaneref36_B_fail.f s0_0 s0_1 s0_2 s0_3 s0_4 40 s0_2).bind fun bt144 => (some (0, bt144.1, bt144.2.1, bt144.2.2.1, bt144.2.2.2)))) = some (r1, r2, r3, r4, r5) := by rw [if_pos rfl] at H; exact H
          clear H
          have H := H1
          clear H1
          by_cases c12 : 40 = 0
          · exact absurd c12 (by decide)
          · rw [if_neg c12] at H
            have c12b0 : (40 == 0) = false := beq_eq_false_iff_ne.mpr c12
            have c12b1 : (40 != 0) = true := bne_iff_ne.mpr c12
            replace H := Option.bind_eq_some_iff.mp H
            obtain ⟨⟨t144, t145, t146, t147⟩, A130, H⟩ := H
            replace H : (some (0, t144, t145, t146, t147)) = some (r1, r2, r3, r4, r5) := H
            have A13 := Aside0.mk A130
            clear A130
            simp only [Option.some.injEq, Prod.mk.injEq] at H
            obtain ⟨rfl, rfl, rfl, rfl, rfl⟩ := H
            obtain ⟨ASz14_0, cSz14_0, HGz14, hgz14, HSz14_0⟩ := HI0.out
            have hcz14_0 := cellS56_0 HGz14
            have hcz14_1 := cellS56_1 HGz14
            have hcz14_2 := cellS56_2 HGz14
            have hcz14_3 := cellS56_3 HGz14
            have hcz14_4 := cellS56_4 HGz14
            have hfz14_1 := blk_frozen HGz14 1
            have hfz14_2 := blk_frozen HGz14 2
            have hfz14_3 := blk_frozen HGz14 3
            have hfz14_4 := blk_frozen HGz14 4
            clear HGz14 hgz14
            go_wp2_with (first | ((with_reducible refine gate_callee (f := 77) rfl ?_); refine goesL_ (some 41) rfl rfl Tryd.func77 (by kernel_rfl) rfl #[.pointer (some ⟨g, 0, none⟩), .int .i64 40, .int .i64 s0_2] rfl (by (try simp only [List.map_toArray, List.map_cons, List.map_nil]); first | done | rfl | (simp only [List.length_drop, List.length_take]; rfl)) ?_; (with_reducible refine (chicaneref36_B_fail.calls g s0_0 s0_1 s0_2 s0_3 s0_4 40 s0_2 t144 t145 t146 t147 w0 _ ?side1 ?side2 A13.out).mono ?_); (case side1 => repeat (first | (with_reducible first | exact HI0.out | apply IsS56.alloc | apply IsS56.drewN | apply IsS56.drew | apply IsS56.set_1 | apply IsS56.set_2 | apply IsS56.set_3 | apply IsS56.set_4) | exact HI0.out)); (case side2 => repeat (first | (with_reducible first | exact HB.out | apply below_alloc | apply pw_below_drewN | apply below_drew1 | refine below_set ?_ (IsS56.ge HI0.out)) | exact HB.out)); rintro e w15 ⟨rfl, hi, hb, hk⟩; refine ⟨_, rfl, ?_⟩; have n0_ := Aside0.mk (KeepBut.trans (by repeat (first | (with_reducible first | exact HK.out | apply KeepBut.set_ | apply keep_drewN | apply keep_drew | apply keep_alloc) | exact HK.out)) hk (.inl rfl)); have n1_ := Aside0.mk (hb); have n2_ := Aside0.mk (hi); clear HK; clear HB; clear HI0; have HK := n0_; have HB := n1_; have HI0 := n2_; clear n0_ n1_ n2_; (try clear hb); (try clear hb2); (try clear hk); (try clear hi)))
            go_ret
            exact ⟨by first | rfl | (simp [errW_none, errW_some] <;> rfl) | (simp [*, errW_none, errW_some] <;> rfl), by repeat (first | (with_reducible first | exact HI0.out | apply IsS56.alloc | apply IsS56.drewN | apply IsS56.drew | apply IsS56.set_1 | apply IsS56.set_2 | apply IsS56.set_3 | apply IsS56.set_4) | exact HI0.out), by repeat (first | (with_reducible first | exact HB.out | apply below_alloc | apply pw_below_drewN | apply below_drew1 | refine below_set ?_ (IsS56.ge HI0.out)) | exact HB.out), by repeat (first | (with_reducible first | exact HK.out | apply KeepBut.set_ | apply keep_drewN | apply keep_drew | apply keep_alloc) | exact HK.out)⟩
        · replace c11 := Bool.eq_false_iff.mpr c11
          subst c11
          have H1 : (if t143 = 0 then (some (t142, s0_1, s0_2, s0_3, s0_4)) else ((chicaneref36_B_fail.f s0_0 s0_1 s0_2 s0_3 s0_4 t143 s0_2).bind fun bt148 => (some (0, bt148.1, bt148.2.1, bt148.2.2.1, bt148.2.2.2)))) = some (r1, r2, r3, r4, r5) := by rw [if_neg (show ¬ (false = true) by decide)] at H; exact H
          clear H
          have H := H1
          clear H1
          by_cases c16 : t143 = 0
          · rw [if_pos c16] at H
            have c16b0 : (t143 == 0) = true := beq_iff_eq.mpr c16
            have c16b1 : (t143 != 0) = false := bne_eq_false_iff_eq.mpr c16
            clear c16
            simp only [Option.some.injEq, Prod.mk.injEq] at H
            obtain ⟨rfl, rfl, rfl, rfl, rfl⟩ := H
            go_wp2
            go_ret
            exact ⟨by first | rfl | (simp [errW_none, errW_some] <;> rfl) | (simp [*, errW_none, errW_some] <;> rfl), by repeat (first | (with_reducible first | exact HI0.out | apply IsS56.alloc | apply IsS56.drewN | apply IsS56.drew | apply IsS56.set_1 | apply IsS56.set_2 | apply IsS56.set_3 | apply IsS56.set_4) | exact HI0.out), by repeat (first | (with_reducible first | exact HB.out | apply below_alloc | apply pw_below_drewN | apply below_drew1 | refine below_set ?_ (IsS56.ge HI0.out)) | exact HB.out), by repeat (first | (with_reducible first | exact HK.out | apply KeepBut.set_ | apply keep_drewN | apply keep_drew | apply keep_alloc) | exact HK.out)⟩
          · rw [if_neg c16] at H
            have c16b0 : (t143 == 0) = false := beq_eq_false_iff_ne.mpr c16
            have c16b1 : (t143 != 0) = true := bne_iff_ne.mpr c16
            replace H := Option.bind_eq_some_iff.mp H
            obtain ⟨⟨t148, t149, t150, t151⟩, A170, H⟩ := H
            replace H : (some (0, t148, t149, t150, t151)) = some (r1, r2, r3, r4, r5) := H
            have A17 := Aside0.mk A170
            clear A170
            simp only [Option.some.injEq, Prod.mk.injEq] at H
            obtain ⟨rfl, rfl, rfl, rfl, rfl⟩ := H
            obtain ⟨ASz18_0, cSz18_0, HGz18, hgz18, HSz18_0⟩ := HI0.out
            have hcz18_0 := cellS56_0 HGz18
            have hcz18_1 := cellS56_1 HGz18
            have hcz18_2 := cellS56_2 HGz18
            have hcz18_3 := cellS56_3 HGz18
            have hcz18_4 := cellS56_4 HGz18
            have hfz18_1 := blk_frozen HGz18 1
            have hfz18_2 := blk_frozen HGz18 2
            have hfz18_3 := blk_frozen HGz18 3
            have hfz18_4 := blk_frozen HGz18 4
            clear HGz18 hgz18
            go_wp2_with (first | ((with_reducible refine gate_callee (f := 77) rfl ?_); refine goesL_ (some 41) rfl rfl Tryd.func77 (by kernel_rfl) rfl #[.pointer (some ⟨g, 0, none⟩), .int .i64 t143, .int .i64 s0_2] rfl (by (try simp only [List.map_toArray, List.map_cons, List.map_nil]); first | done | rfl | (simp only [List.length_drop, List.length_take]; rfl)) ?_; (with_reducible refine (chicaneref36_B_fail.calls g s0_0 s0_1 s0_2 s0_3 s0_4 t143 s0_2 t148 t149 t150 t151 w0 _ ?side1 ?side2 A17.out).mono ?_); (case side1 => repeat (first | (with_reducible first | exact HI0.out | apply IsS56.alloc | apply IsS56.drewN | apply IsS56.drew | apply IsS56.set_1 | apply IsS56.set_2 | apply IsS56.set_3 | apply IsS56.set_4) | exact HI0.out)); (case side2 => repeat (first | (with_reducible first | exact HB.out | apply below_alloc | apply pw_below_drewN | apply below_drew1 | refine below_set ?_ (IsS56.ge HI0.out)) | exact HB.out)); rintro e w19 ⟨rfl, hi, hb, hk⟩; refine ⟨_, rfl, ?_⟩; have n0_ := Aside0.mk (KeepBut.trans (by repeat (first | (with_reducible first | exact HK.out | apply KeepBut.set_ | apply keep_drewN | apply keep_drew | apply keep_alloc) | exact HK.out)) hk (.inl rfl)); have n1_ := Aside0.mk (hb); have n2_ := Aside0.mk (hi); clear HK; clear HB; clear HI0; have HK := n0_; have HB := n1_; have HI0 := n2_; clear n0_ n1_ n2_; (try clear hb); (try clear hb2); (try clear hk); (try clear hi)))
            go_ret
            exact ⟨by first | rfl | (simp [errW_none, errW_some] <;> rfl) | (simp [*, errW_none, errW_some] <;> rfl), by repeat (first | (with_reducible first | exact HI0.out | apply IsS56.alloc | apply IsS56.drewN | apply IsS56.drew | apply IsS56.set_1 | apply IsS56.set_2 | apply IsS56.set_3 | apply IsS56.set_4) | exact HI0.out), by repeat (first | (with_reducible first | exact HB.out | apply below_alloc | apply pw_below_drewN | apply below_drew1 | refine below_set ?_ (IsS56.ge HI0.out)) | exact HB.out), by repeat (first | (with_reducible first | exact HK.out | apply KeepBut.set_ | apply keep_drewN | apply keep_drew | apply keep_alloc) | exact HK.out)⟩
  · rw [if_neg c5] at H
    have c5b0 : (s0_3 == 0) = false := beq_eq_false_iff_ne.mpr c5
    have c5b1 : (s0_3 != 0) = true := bne_iff_ne.mpr c5
    simp only [Option.some.injEq, Prod.mk.injEq] at H
    obtain ⟨rfl, rfl, rfl, rfl, rfl⟩ := H
    obtain ⟨ASz20_0, cSz20_0, HGz20, hgz20, HSz20_0⟩ := HI0.out
    have hcz20_0 := cellS56_0 HGz20
    have hcz20_1 := cellS56_1 HGz20
    have hcz20_2 := cellS56_2 HGz20
    have hcz20_3 := cellS56_3 HGz20
    have hcz20_4 := cellS56_4 HGz20
    have hfz20_1 := blk_frozen HGz20 1
    have hfz20_2 := blk_frozen HGz20 2
    have hfz20_3 := blk_frozen HGz20 3
    have hfz20_4 := blk_frozen HGz20 4
    clear HGz20 hgz20
    go_enter Tryd.func78, Tryd.ntmps78
    go_wp2
    go_ret
    exact ⟨by first | rfl | (simp [errW_none, errW_some] <;> rfl) | (simp [*, errW_none, errW_some] <;> rfl), by repeat (first | (with_reducible first | exact HI0.out | apply IsS56.alloc | apply IsS56.drewN | apply IsS56.drew | apply IsS56.set_1 | apply IsS56.set_2 | apply IsS56.set_3 | apply IsS56.set_4) | exact HI0.out), by repeat (first | (with_reducible first | exact HB.out | apply below_alloc | apply pw_below_drewN | apply below_drew1 | refine below_set ?_ (IsS56.ge HI0.out)) | exact HB.out), by repeat (first | (with_reducible first | exact HK.out | apply KeepBut.set_ | apply keep_drewN | apply keep_drew | apply keep_alloc) | exact HK.out)⟩

end Go.Proofs.YtbhbpopebmdemaaDoor.PA
