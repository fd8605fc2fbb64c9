import Derived.Test.YtbhbpopebmdemaaDoorB3
import Derived.Test.YtbhbpopebmdemaaDoorU3
namespace Go.Proofs.YtbhbpopebmdemaaDoor
open Go.RowKit Go.Proofs.YtbhbpopebmdemaaDoorW.PrintWords Go.Proofs.YtbhbpopebmdemaaDoorW.PrintLast Go.Proofs.YtbhbpopebmdemaaDoorW.PrintMore
open ChiPure Go.Lib Go.Shelf
set_option linter.unusedVariables false
set_option linter.unusedSimpArgs false

/-- Book.Good. -/
theorem bGood_any (g M : Nat) (ls : List S107) (all last err place : Int) (w : World) (h : BK w g M ls all last err place) :
    Calls Tryd.prog 33 #[.pointer (some ⟨g, 0, none⟩)] w fun e w' => e = .returned (.bool (err == 0)) ∧ w' = w := by
  have hgood := good_any g M ls all last err place w h
  clear h
  go_enter Tryd.func33, Tryd.ntmps33
  go_wp2_with (go_at_call 69; refine hgood.mono ?_; rintro e w' ⟨rfl, rfl⟩)
  go_ret
  exact ⟨rfl, rfl⟩

/-- Book.Shape. -/
theorem shape_any (g M : Nat) (ls : List S107) (all last err place : Int) (w : World) (h : BK w g M ls all last err place) :
    Calls Tryd.prog 32 #[.pointer (some ⟨g, 0, none⟩)] w fun e w' => e = .returned (.tuple #[]) ∧ BK w' g M ls all last (failE err 42) (failP err 42 place last) ∧ w.grownBy w' (some g) := by
  have hgood := good_any g M ls all last err place w h
  have hfail := fail_any g M ls all last err place 42 last w h
  obtain ⟨A, c, c0, c1, c2, c3, c4, hf, hlt, hc, hF⟩ := h.cells
  clear hF hf
  by_cases he : err = 0
  · have b1 : (err == 0) = true := by simp [he]
    clear he
    go_enter Tryd.func32, Tryd.ntmps32
    go_wp2_with (first | (go_at_call 69; refine hgood.mono ?_; rintro e w' ⟨rfl, rfl⟩) | (go_at_call 70; refine hfail.mono ?_; rintro e w' ⟨rfl, hb, hg⟩))
    go_end0
    exact ⟨rfl, hb, hg⟩
  · have b1 : (err == 0) = false := by simp [he]
    have H := Lib.hid he
    clear he
    go_enter Tryd.func32, Tryd.ntmps32
    go_wp2_with (first | (go_at_call 69; refine hgood.mono ?_; rintro e w' ⟨rfl, rfl⟩))
    go_end0
    rw [failE_old (fun hx => H.out hx.1), failP_old (fun hx => H.out hx.1)]
    exact ⟨rfl, h, grown_refl _ _⟩

/-- Book.End: no line is left. -/
theorem end_none (g M : Nat) (all last err place : Int) (w : World) (h : BK w g M [] all last err place) :
    Calls Tryd.prog 35 #[.pointer (some ⟨g, 0, none⟩)] w fun e w' => e = .returned (.tuple #[.int .i64 err, .int .i64 place]) ∧ w.grownBy w' (some g) := by
  obtain ⟨A, c, c0, c1, c2, c3, c4, hf, hlt, hc, hF⟩ := h.cells
  clear hF hf h
  go_enter Tryd.func35, Tryd.ntmps35
  go_wp2
  go_quiet (fail)
  go_wp2
  go_ret2
  exact ⟨rfl, grown_below (grown_refl _ _) (pw_below_drewN (Below.refl _ _) _)⟩

/-- Book.End: a line is left. -/
theorem end_more (g M : Nat) (x : S107) (ls : List S107) (all last err place : Int) (p : ByteArray) (ps : List ByteArray) (w : World) (h : BK w g M (x :: ls) all last err place) (hx : x.f1 = p :: ps) :
    Calls Tryd.prog 35 #[.pointer (some ⟨g, 0, none⟩)] w fun e w' => e = .returned (.tuple #[.int .i64 (failE err 23), .int .i64 (failP err 23 place x.f0)]) ∧ w.grownBy w' (some g) := by
  have hfail := fail_any g M (x :: ls) all last err place 23 x.f0 w h
  obtain ⟨ad, c, a1, m1, c0, c1, c2, c3, c4, d0, d1, f0, l1, l2, l3, k1, k2, k3, k4, hF, hC, ng1, ng2⟩ := h.head p ps hx
  clear hF hC h hx
  go_enter Tryd.func35, Tryd.ntmps35
  go_wp2_with fail
  refine hfail.mono ?_
  rintro e w' ⟨rfl, hb, hg⟩
  obtain ⟨A, c, e0, e1, e2, e3, e4, hf, hlt, hc, hF⟩ := hb.cells
  clear hF hf hb c0 c1 c2 c3 c4 d0 d1 f0
  go_wp2
  go_quiet (fail)
  go_wp2
  go_ret2
  exact ⟨rfl, grown_below hg (pw_below_drewN (Below.refl _ _) _)⟩

/-- a whole number within bounds: the number, and the error. -/
def intR (s : ByteArray) (low high : Int) : Int × Int :=
  if (rdW s.data.toList).2 = 0 ∧ ((rdW s.data.toList).1 < low ∨ high < (rdW s.data.toList).1) then (0, 40) else rdW s.data.toList

theorem int_err (g M : Nat) (ls : List S107) (all last err place low high : Int) (s : ByteArray) (w : World) (h : BK w g M ls all last err place) (he : err ≠ 0) :
    Calls Tryd.prog 73 #[.pointer (some ⟨g, 0, none⟩), .string s, .int .i64 low, .int .i64 high] w fun e w' => e = .returned (.int .i64 0) ∧ w' = w := by
  have hgood := good_any g M ls all last err place w h
  have b1 : (err == 0) = false := by simp [he]
  clear he h
  go_enter Tryd.func73, Tryd.ntmps73
  go_wp2_with (first | (go_at_call 69; refine hgood.mono ?_; rintro e w' ⟨rfl, rfl⟩))
  go_ret
  exact ⟨rfl, rfl⟩

/-- Book.Int. -/
theorem int_any (g M : Nat) (ls : List S107) (all last place low high : Int) (s : ByteArray) (w : World) (h : BK w g M ls all last 0 place) :
    Calls Tryd.prog 73 #[.pointer (some ⟨g, 0, none⟩), .string s, .int .i64 low, .int .i64 high] w fun e w' => e = .returned (.int .i64 (intR s low high).1) ∧
      BK w' g M ls all last (failE 0 (intR s low high).2) (failP 0 (intR s low high).2 place last) ∧ w.grownBy w' (some g) := by
  have hgood := good_any g M ls all last 0 place w h
  have hread := readWhole_any s w
  have hfail : ∀ n e, _ := fun n e => fail_any g M ls all last 0 place e last (w.drewN n) (h.step (pw_below_drewN (Below.refl _ _) n))
  obtain ⟨A, c, c0, c1, c2, c3, c4, hf, hlt, hc, hF⟩ := h.cells
  clear hF hf
  unfold intR
  generalize rdW s.data.toList = r at *
  obtain ⟨n, e⟩ := r
  simp only at *
  by_cases h1 : e = 0
  · subst h1
    by_cases h2 : n < low
    · rw [if_pos ⟨rfl, Or.inl h2⟩]
      go_enter Tryd.func73, Tryd.ntmps73
      go_wp2_with (first | (go_at_call 69; refine hgood.mono ?_; rintro e w' ⟨rfl, rfl⟩) | (go_at_call 20; refine hread.mono ?_; rintro e w' ⟨rfl, ⟨nd, rfl⟩⟩) | (go_at_call 70; refine (hfail nd 40).mono ?_; rintro e w' ⟨rfl, hb, hg⟩))
      go_ret
      exact ⟨rfl, hb, grown_then (pw_below_drewN (Below.refl _ _) _) hg⟩
    · by_cases h3 : high < n
      · rw [if_pos ⟨rfl, Or.inr h3⟩]
        go_enter Tryd.func73, Tryd.ntmps73
        go_wp2_with (first | (go_at_call 69; refine hgood.mono ?_; rintro e w' ⟨rfl, rfl⟩) | (go_at_call 20; refine hread.mono ?_; rintro e w' ⟨rfl, ⟨nd, rfl⟩⟩) | (go_at_call 70; refine (hfail nd 40).mono ?_; rintro e w' ⟨rfl, hb, hg⟩))
        go_ret
        exact ⟨rfl, hb, grown_then (pw_below_drewN (Below.refl _ _) _) hg⟩
      · rw [if_neg (by rintro ⟨_, h | h⟩; exact h2 h; exact h3 h)]
        go_enter Tryd.func73, Tryd.ntmps73
        go_wp2_with (first | (go_at_call 69; refine hgood.mono ?_; rintro e w' ⟨rfl, rfl⟩) | (go_at_call 20; refine hread.mono ?_; rintro e w' ⟨rfl, ⟨nd, rfl⟩⟩) | (go_at_call 70; refine (hfail nd 0).mono ?_; rintro e w' ⟨rfl, hb, hg⟩))
        go_ret
        exact ⟨rfl, hb, grown_then (pw_below_drewN (Below.refl _ _) _) hg⟩
  · rw [if_neg (fun hx => h1 hx.1)]
    have b1 : (e == 0) = false := by simp [h1]
    clear h1
    go_enter Tryd.func73, Tryd.ntmps73
    go_wp2_with (first | (go_at_call 69; refine hgood.mono ?_; rintro e w' ⟨rfl, rfl⟩) | (go_at_call 20; refine hread.mono ?_; rintro e w' ⟨rfl, ⟨nd, rfl⟩⟩) | (go_at_call 70; refine (hfail nd e).mono ?_; rintro e w' ⟨rfl, hb, hg⟩))
    go_ret
    exact ⟨rfl, hb, grown_then (pw_below_drewN (Below.refl _ _) _) hg⟩

/-- one of some words: which, and the error. -/
def oneR (zs : List ByteArray) (x : ByteArray) : Int × Int := if Lib.idxOfS zs x < 0 then (0, 24) else (Lib.idxOfS zs x, 0)

theorem one_err (g M : Nat) (ls : List S107) (all last err place : Int) (s : ByteArray) (v : Value) (w : World) (h : BK w g M ls all last err place) (he : err ≠ 0) :
    Calls Tryd.prog 74 #[.pointer (some ⟨g, 0, none⟩), .string s, v] w fun e w' => e = .returned (.int .i64 0) ∧ w' = w := by
  have hgood := good_any g M ls all last err place w h
  have b1 : (err == 0) = false := by simp [he]
  clear he h
  go_enter Tryd.func74, Tryd.ntmps74
  go_wp2_with (first | (go_at_call 69; refine hgood.mono ?_; rintro e w' ⟨rfl, rfl⟩))
  go_ret
  exact ⟨rfl, rfl⟩

/-- Book.One. -/
theorem one_any (g M : Nat) (ls : List S107) (all last place : Int) (s : ByteArray) (b n c : Nat) (zs : List ByteArray) (w : World) (h : BK w g M ls all last 0 place) (hn : n = zs.length) (hbig : zs.length ≤ 100)
    (hc : ∀ j, j < zs.length → w.cell? ⟨b, j, none⟩ = some (.string (zs.getD j ByteArray.empty))) :
    Calls Tryd.prog 74 #[.pointer (some ⟨g, 0, none⟩), .string s, .slice (some ⟨b, 0, none⟩) n c] w fun e w' => e = .returned (.int .i64 (oneR zs s).1) ∧
      BK w' g M ls all last (failE 0 (oneR zs s).2) (failP 0 (oneR zs s).2 place last) ∧ w.grownBy w' (some g) := by
  have hgood := good_any g M ls all last 0 place w h
  have hidx := Tryd.slices_Index_string b 0 n c zs s w (by omega) (by omega) (by intro j hj; rw [Nat.zero_add]; exact hc j hj)
  rw [List.take_of_length_le (by omega)] at hidx
  have hfail := fail_any g M ls all last 0 place 24 last w h
  obtain ⟨A, c', c0, c1, c2, c3, c4, hf, hlt, hc', hF⟩ := h.cells
  have hlo : -1 ≤ Lib.idxOfS zs s := by
    by_cases hx : 0 ≤ Lib.idxOfS zs s
    · omega
    · have hm : ¬ s ∈ zs := fun hm => hx ((Lib.idxOfS_nonneg_iff zs s).2 hm)
      have := Lib.idxOfS_miss zs zs.length s (fun j hj he => hm (by rw [← he]; rw [List.getD_eq_getElem?_getD, List.getElem?_eq_getElem hj]; exact List.getElem_mem hj))
      rw [List.take_of_length_le (Nat.le_refl _)] at this
      omega
  clear hF hf hc hn
  unfold oneR
  generalize Lib.idxOfS zs s = i at *
  by_cases hi : i < 0
  · rw [if_pos hi]
    obtain rfl : i = -1 := by omega
    go_enter Tryd.func74, Tryd.ntmps74
    go_wp2_with (first | (go_at_call 69; refine hgood.mono ?_; rintro e w' ⟨rfl, rfl⟩) | (go_at_call 108; refine hidx.mono ?_; rintro e w' ⟨rfl, rfl⟩) | (go_at_call 70; refine hfail.mono ?_; rintro e w' ⟨rfl, hb, hg⟩))
    go_ret
    exact ⟨rfl, hb, hg⟩
  · rw [if_neg hi]
    have hmx : max i 0 = i := by omega
    go_enter Tryd.func74, Tryd.ntmps74
    go_wp2_with (first | (go_at_call 69; refine hgood.mono ?_; rintro e w' ⟨rfl, rfl⟩) | (go_at_call 108; refine hidx.mono ?_; rintro e w' ⟨rfl, rfl⟩))
    go_ret
    exact ⟨rfl, h, grown_refl _ _⟩
end Go.Proofs.YtbhbpopebmdemaaDoor
