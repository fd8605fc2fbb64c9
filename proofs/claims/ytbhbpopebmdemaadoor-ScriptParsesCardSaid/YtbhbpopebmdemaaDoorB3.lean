import Derived.Test.YtbhbpopebmdemaaDoorB2
namespace Go.Proofs.YtbhbpopebmdemaaDoor
open Go.RowKit Go.Proofs.YtbhbpopebmdemaaDoorW.PrintWords Go.Proofs.YtbhbpopebmdemaaDoorW.PrintLast Go.Proofs.YtbhbpopebmdemaaDoorW.PrintMore
open ChiPure Go.Lib Go.Shelf
set_option linter.unusedVariables false
set_option linter.unusedSimpArgs false

theorem grown_then {w w1 w2 : World} {g : Nat} (hb : Below w.heap.size w w1) (h : w1.grownBy w2 (some g)) : w.grownBy w2 (some g) :=
  ⟨h.1.trans hb.os, h.2.trans hb.tape, h.3.trans hb.output, Nat.le_trans hb.size h.4, fun k hk hne => (h.5 k (Nat.lt_of_lt_of_le hk hb.size) hne).trans (hb.block k hk)⟩

/-- Book.Take behind an error. -/
theorem take_err (g M : Nat) (ls : List S107) (all last err place least most : Int) (word : ByteArray) (w : World) (h : BK w g M ls all last err place) (he : err ≠ 0) :
    Calls Tryd.prog 29 #[.pointer (some ⟨g, 0, none⟩), .string word, .int .i64 least, .int .i64 most] w fun en w' => en = .returned (.slice none 0 0) ∧ w' = w := by
  have hgood := good_any g M ls all last err place w h
  have b1 : (err == 0) = false := by simp [he]
  clear he h
  go_enter Tryd.func29, Tryd.ntmps29
  go_wp2_with (go_at_call 69; refine hgood.mono ?_; rintro e w' ⟨rfl, rfl⟩)
  go_ret
  exact ⟨rfl, rfl⟩

/-- .. where no line is left. -/
theorem take_short (g M : Nat) (all last place least most : Int) (word : ByteArray) (w : World) (h : BK w g M [] all last 0 place) (ha : 0 ≤ all ∧ all ≤ 4294967296) :
    Calls Tryd.prog 29 #[.pointer (some ⟨g, 0, none⟩), .string word, .int .i64 least, .int .i64 most] w fun en w' => en = .returned (.slice none 0 0) ∧ BK w' g M [] all last 20 (all + 1) ∧ w.grownBy w' (some g) := by
  have hgood := good_any g M [] all last 0 place w h
  have hfail := fail_any g M [] all last 0 place 20 (all + 1) w h
  obtain ⟨ha1, ha2⟩ := ha
  obtain ⟨A, c, c0, c1, c2, c3, c4, hf, hlt, hc, hF⟩ := h.cells
  clear hF h hf
  go_enter Tryd.func29, Tryd.ntmps29
  go_wp2_with (first | (go_at_call 69; refine hgood.mono ?_; rintro e w' ⟨rfl, rfl⟩) | (go_at_call 70; refine hfail.mono ?_; rintro e w' ⟨rfl, hb, hg⟩))
  go_ret
  exact ⟨rfl, hb, hg⟩

/-- what the first line leads to. -/
theorem BK.head {W : World} {g M : Nat} {x : S107} {ls : List S107} {all last err place : Int} (h : BK W g M (x :: ls) all last err place) (p : ByteArray) (ps : List ByteArray) (hx : x.f1 = p :: ps) :
    ∃ ad c a1 m1, W.cell? ⟨g, 0, none⟩ = some (.slice (some ad) (ls.length + 1) c) ∧ W.cell? ⟨g, 1, none⟩ = some (.int .i64 all) ∧ W.cell? ⟨g, 2, none⟩ = some (.int .i64 last) ∧
      W.cell? ⟨g, 3, none⟩ = some (.int .i64 err) ∧ W.cell? ⟨g, 4, none⟩ = some (.int .i64 place) ∧ W.cell? ad = some (.int .i64 x.f0) ∧
      W.cell? ⟨ad.block, ad.off + 1, none⟩ = some (.slice (some a1) (ps.length + 1) m1) ∧ W.cell? a1 = some (.string p) ∧ g < W.heap.size ∧ ad.block < W.heap.size ∧ a1.block < W.heap.size ∧
      ls.length + 1 ≤ c ∧ ps.length + 1 ≤ m1 ∧ ls.length + 1 ≤ 9223372036854775807 ∧ ps.length + 1 ≤ 9223372036854775807 ∧
      Kd.F k107 W (fun k => k ≠ g ∧ k < M) (some ad) (x :: ls).length (x :: ls) ∧ Kd.F Kd.string W (fun k => k ≠ g ∧ k < M) (some a1) (ps.length + 1) (p :: ps) ∧ ad.block ≠ g ∧ a1.block ≠ g := by
  obtain ⟨A, c, c0, c1, c2, c3, c4, hf, hlt, hc, hF⟩ := h.cells
  obtain ⟨ad, cs, rfl, hcs, hFK, hcells, _⟩ := Kd.F_get hF z107 0 (by omega) (by simp)
  have e0 : (x :: ls).getD (Int.toNat 0) z107 = x := rfl
  rw [e0] at hFK
  obtain ⟨A1, m1, rfl, l1, hP⟩ := k107_openF hFK
  rw [hx] at l1 hP hcells
  have hz : ∀ a : Addr, a.add 0 = a := fun a => by unfold Addr.add; split <;> simp_all
  have d0 := hcells 0 _ rfl
  have d1 := hcells 1 _ rfl
  rw [add_field _ _ 1 (by omega)] at d1
  have ee : Int.toNat 0 * k107.sz = 0 := by simp
  rw [ee] at d0 d1
  simp only [Nat.add_zero, hz] at d0 d1
  obtain ⟨a1, rfl, f0⟩ := Kd.at_string (Kd.F_now hP) 0 (by omega) (by simp)
  simp only [Int.toNat_zero, hz] at f0
  have hm1 := Kd.F_max hF
  have hm2 := Kd.F_max hP
  have i1 := (Kd.F_in hF rfl (by simp) (by decide)).1
  have i2 := (Kd.F_in hP rfl (by simp) (by decide)).1
  simp only [List.length_cons] at *
  exact ⟨ad, c, a1, m1, c0, c1, c2, c3, c4, d0, d1, f0, hlt, World.block_lt_of_cell? _ _ d0, World.block_lt_of_cell? _ _ f0, hc, l1, hm1, hm2, hF, hP, i1, i2⟩

/-- .. where the first line has another word. -/
theorem take_magic (g M : Nat) (x : S107) (ls : List S107) (all last place least most : Int) (word p : ByteArray) (ps : List ByteArray) (w : World) (h : BK w g M (x :: ls) all last 0 place) (hx : x.f1 = p :: ps)
    (hw : p ≠ word) :
    Calls Tryd.prog 29 #[.pointer (some ⟨g, 0, none⟩), .string word, .int .i64 least, .int .i64 most] w fun en w' => en = .returned (.slice none 0 0) ∧ BK w' g M (x :: ls) all last 21 x.f0 ∧ w.grownBy w' (some g) := by
  have hgood := good_any g M (x :: ls) all last 0 place w h
  have hfail : ∀ w1, Below w.heap.size w w1 → _ := fun w1 hb => fail_any g M (x :: ls) all last 0 place 21 x.f0 w1 (h.step hb)
  have hwb : (p.toList == word.toList) = false := by
    rw [beq_eq_false_iff_ne]; intro he; apply hw; rw [ByteArray.toList_eq, ByteArray.toList_eq] at he; exact ByteArray.ext (Array.ext' he)
  obtain ⟨ad, c, a1, m1, c0, c1, c2, c3, c4, d0, d1, f0, l1, l2, l3, k1, k2, k3, k4, hF, hC, ng1, ng2⟩ := h.head p ps hx
  have bl : ((ls.length : Int) + 1 == 0) = false := by rw [beq_eq_false_iff_ne]; omega
  have n1 : g ≠ w.heap.size := by omega
  have n2 : ad.block ≠ w.heap.size := by omega
  have n3 : a1.block ≠ w.heap.size := by omega
  have HX := Lib.hid hx
  clear hF hC h hx hw
  go_enter Tryd.func29, Tryd.ntmps29
  go_wp2_with (first | (go_at_call 69; refine hgood.mono ?_; rintro e w' ⟨rfl, rfl⟩) | (go_at_call 70; refine (hfail _ ((Below.refl _ _).alloc (Nat.le_refl _) _)).mono ?_; rintro e w' ⟨rfl, hb, hg⟩))
  go_ret
  exact ⟨rfl, hb, grown_then ((Below.refl _ _).alloc (Nat.le_refl _) _) hg⟩

/-- .. where it has another count of pieces. -/
theorem take_count (g M : Nat) (x : S107) (ls : List S107) (all last place least most : Int) (word : ByteArray) (ps : List ByteArray) (w : World) (h : BK w g M (x :: ls) all last 0 place) (hx : x.f1 = word :: ps)
    (hw : (ps.length : Int) < least ∨ most < (ps.length : Int)) :
    Calls Tryd.prog 29 #[.pointer (some ⟨g, 0, none⟩), .string word, .int .i64 least, .int .i64 most] w fun en w' => en = .returned (.slice none 0 0) ∧ BK w' g M (x :: ls) all last 22 x.f0 ∧ w.grownBy w' (some g) := by
  have hgood := good_any g M (x :: ls) all last 0 place w h
  have hfail : ∀ w1, Below w.heap.size w w1 → _ := fun w1 hb => fail_any g M (x :: ls) all last 0 place 22 x.f0 w1 (h.step hb)
  obtain ⟨ad, c, a1, m1, c0, c1, c2, c3, c4, d0, d1, f0, l1, l2, l3, k1, k2, k3, k4, hF, hC, ng1, ng2⟩ := h.head word ps hx
  have bl : ((ls.length : Int) + 1 == 0) = false := by rw [beq_eq_false_iff_ne]; omega
  have n1 : g ≠ w.heap.size := by omega
  have n2 : ad.block ≠ w.heap.size := by omega
  have n3 : a1.block ≠ w.heap.size := by omega
  have HX := Lib.hid hx
  clear hF hC h hx
  by_cases hlo : (ps.length : Int) < least
  · clear hw
    go_enter Tryd.func29, Tryd.ntmps29
    go_wp2_with (first | (go_at_call 69; refine hgood.mono ?_; rintro e w' ⟨rfl, rfl⟩) | (go_at_call 70; refine (hfail _ ((Below.refl _ _).alloc (Nat.le_refl _) _)).mono ?_; rintro e w' ⟨rfl, hb, hg⟩))
    go_ret
    exact ⟨rfl, hb, grown_then ((Below.refl _ _).alloc (Nat.le_refl _) _) hg⟩
  · have hhi : most < (ps.length : Int) := by omega
    clear hw
    go_enter Tryd.func29, Tryd.ntmps29
    go_wp2_with (first | (go_at_call 69; refine hgood.mono ?_; rintro e w' ⟨rfl, rfl⟩) | (go_at_call 70; refine (hfail _ ((Below.refl _ _).alloc (Nat.le_refl _) _)).mono ?_; rintro e w' ⟨rfl, hb, hg⟩))
    go_ret
    exact ⟨rfl, hb, grown_then ((Below.refl _ _).alloc (Nat.le_refl _) _) hg⟩

theorem clone_tail (a1 : Addr) (m1 : Nat) (p : ByteArray) (ps : List ByteArray) (A1 : Option Addr) (w : World) (hC : Kd.C Kd.string w (some a1) (ps.length + 1) (p :: ps)) (hm : ps.length + 1 ≤ m1)
    (hA : (if m1 = 1 then some a1 else some ⟨a1.block, a1.off + 1, none⟩) = A1) (hbig : ps.length ≤ 4294967296) :
    Calls Tryd.prog 71 #[.slice A1 ps.length (m1 - 1)] w fun e w' => ∃ v, e = .returned v ∧ v ≠ .slice none 0 0 ∧ Kd.R Kd.string 9 w' w.heap.size (fun _ => True) v ps ∧ Below w.heap.size w w' := by
  cases ps with
  | nil =>
    obtain ⟨b, hb⟩ : ∃ b, A1 = some b := by rw [← hA]; split <;> exact ⟨_, rfl⟩
    subst hb
    refine (Tryd.slices_Clone_string_zero b (m1 - 1) w).mono ?_
    rintro e w' ⟨v, rfl, hown, hne, hb⟩
    exact ⟨v, rfl, hne, own_R_string (xs := []) hown, hb⟩
  | cons q qs =>
    have hm1 : m1 ≠ 1 := by simp at hm; omega
    rw [if_neg hm1] at hA
    subst hA
    have hcell : ∀ j, j < (q :: qs).length → w.cell? ⟨a1.block, a1.off + 1 + j, none⟩ = some (.string ((q :: qs).getD j ByteArray.empty)) := by
      intro j hj
      obtain ⟨a, ha, hx⟩ := Kd.at_string hC ((j + 1 : Nat) : Int) (by omega) (by simp at hj ⊢; omega)
      cases ha
      rw [Int.toNat_natCast] at hx
      have e1 : a1.add (j + 1) = ⟨a1.block, a1.off + 1 + j, none⟩ := by
        unfold Addr.add; simp; omega
      rw [e1] at hx
      rw [hx]
      rfl
    refine (Tryd.slices_Clone_string a1.block (a1.off + 1) (q :: qs).length (m1 - 1) (q :: qs) w (Nat.le_refl _) (by omega) hcell).mono ?_
    rintro e w' ⟨v, rfl, hown, hne, hb⟩
    rw [List.take_of_length_le (Nat.le_refl _)] at hown
    exact ⟨v, rfl, hne, own_R_string hown, hb⟩

/-- .. where it is taken. -/
theorem take_ok (g M : Nat) (x : S107) (ls : List S107) (all last place least most : Int) (word : ByteArray) (ps : List ByteArray) (w : World) (h : BK w g M (x :: ls) all last 0 place) (hx : x.f1 = word :: ps)
    (hlo : least ≤ (ps.length : Int)) (hhi : (ps.length : Int) ≤ most) (hbig : ps.length ≤ 4294967296) :
    Calls Tryd.prog 29 #[.pointer (some ⟨g, 0, none⟩), .string word, .int .i64 least, .int .i64 most] w fun en w' => ∃ v, en = .returned v ∧ v ≠ .slice none 0 0 ∧ Kd.R Kd.string 9 w' w.heap.size (fun _ => True) v ps ∧
      BK w' g M ls all x.f0 0 place ∧ w.grownBy w' (some g) := by
  have hgood := good_any g M (x :: ls) all last 0 place w h
  obtain ⟨ad, c, a1, m1, c0, c1, c2, c3, c4, d0, d1, f0, l1, l2, l3, k1, k2, k3, k4, hF, hC, ng1, ng2⟩ := h.head word ps hx
  have hfz : ∀ j, w.frozen? ⟨g, j, none⟩ = false := h.cells.choose_spec.choose_spec.2.2.2.2.2.1
  have z0 := hfz 0
  have z2 := hfz 2
  have bl : ((ls.length : Int) + 1 == 0) = false := by rw [beq_eq_false_iff_ne]; omega
  have n1 : g ≠ w.heap.size := by omega
  have n2 : ad.block ≠ w.heap.size := by omega
  have n3 : a1.block ≠ w.heap.size := by omega
  obtain ⟨A0, hA0⟩ : ∃ A0, (if c = 1 then some ad else some ⟨ad.block, ad.off + 2, none⟩) = A0 := ⟨_, rfl⟩
  obtain ⟨A1, hA1⟩ : ∃ A1, (if m1 = 1 then some a1 else some ⟨a1.block, a1.off + 1, none⟩) = A1 := ⟨_, rfl⟩
  have hclone := fun (w1 : World) (hC1 : Kd.C Kd.string w1 (some a1) (ps.length + 1) (word :: ps)) => clone_tail a1 m1 word ps A1 w1 hC1 k2 hA1 hbig
  have HF := Lib.hid hF
  have HC := Lib.hid hC
  have HH := Lib.hid h
  clear hF hC h hx hfz
  go_enter Tryd.func29, Tryd.ntmps29
  go_wp2_with (first | (go_at_call 69; refine hgood.mono ?_; rintro e w' ⟨rfl, rfl⟩))
  go_region
  go_wp2_with fail
  have hgr : w'.grownBy ((((w'.setCell ⟨g, 0, none⟩ (.slice A0 ls.length (c - 1))).setCell ⟨g, 2, none⟩ (.int .i64 x.f0)).alloc (.cells #[.int .i64 x.f0, .slice (some a1) (ps.length + 1) m1] 107)).drew) (some g) :=
    grown_below (grown_set (grown_set (grown_refl _ _) 0 _) 2 _) (((Below.refl _ _).alloc (Nat.le_refl _) _).drew)
  have hbk := HH.out
  have hBK : BK ((((w'.setCell ⟨g, 0, none⟩ (.slice A0 ls.length (c - 1))).setCell ⟨g, 2, none⟩ (.int .i64 x.f0)).alloc (.cells #[.int .i64 x.f0, .slice (some a1) (ps.length + 1) m1] 107)).drew) g M ls all x.f0 0 place := by
    have hbnd := hbk.bnd
    obtain ⟨A, c', hg, hc', hF', _⟩ := hbk
    have e : w'.cell? ⟨g, 0, none⟩ = some (.slice A (x :: ls).length c') := by rw [blk_cell hg]; rfl
    rw [c0] at e
    simp only [Option.some.injEq, Value.slice.injEq, List.length_cons, true_and] at e
    obtain ⟨rfl, rfl⟩ := e
    have hcut := Kd.F_cut (m := 1) (c := c) (xs := x :: ls) hF' (by simp) hc'
    have e2 : (if c = 1 then some ad else Option.map (fun a => a.add (1 * k107.sz)) (some ad)) = A0 := by
      rw [← hA0]
      split
      · rfl
      · simp only [Option.map_some]
        have : ad.add (1 * k107.sz) = ⟨ad.block, ad.off + 2, none⟩ := by unfold Addr.add; rfl
        rw [this]
    rw [e2] at hcut
    exact BK.mk_set hg hbnd hcut (by simp at hc' ⊢; omega) hgr (blk_drew (blk_alloc (blk_set (blk_set hg _ _) _ _) _))
  refine (hclone _ (Kd.F_now (Kd.F_step HC.out (fun k hk hlt => hgr.block k hlt (fun he => hk.1 (by injection he)))))).mono ?_
  rintro e w2 ⟨v, rfl, hne, hR, hb2⟩
  have HG := Lib.hid hgr
  have HB := Lib.hid hBK
  clear hgr hBK hbk
  go_wp2_with fail
  go_ret
  exact ⟨v, rfl, hne, Kd.R_lower hR HG.out.size, HB.out.step hb2, grown_below HG.out hb2⟩
end Go.Proofs.YtbhbpopebmdemaaDoor
