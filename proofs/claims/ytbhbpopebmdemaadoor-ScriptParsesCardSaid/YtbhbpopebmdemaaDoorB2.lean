import Derived.Test.YtbhbpopebmdemaaDoorB1
import Derived.Test.YtbhbpopebmdemaaDoorPAx6
namespace Go.Proofs.YtbhbpopebmdemaaDoor
open Go.RowKit Go.Proofs.YtbhbpopebmdemaaDoorW.PrintWords Go.Proofs.YtbhbpopebmdemaaDoorW.PrintLast Go.Proofs.YtbhbpopebmdemaaDoorW.PrintMore
open ChiPure Go.Lib Go.Shelf
set_option linter.unusedVariables false
set_option linter.unusedSimpArgs false

def rd_L2 (xs : List (List ByteArray)) (i : Int) : (List ByteArray) := xs.getD i.toNat ([] : List ByteArray)
theorem at_L2 {w : World} {A : Option Addr} {n : Nat} {xs : List (List ByteArray)} (h : Kd.C (Kd.slice 9 Kd.string) w A n xs) (i : Int) (h0 : 0 ≤ i) (h1 : i < n) : ∃ ad A0 c0, A = some ad ∧ w.cell? (ad.add i.toNat) = some (.slice A0 (rd_L2 xs i).length c0) ∧ (rd_L2 xs i).length ≤ c0 ∧ Kd.string.C w A0 (rd_L2 xs i).length (rd_L2 xs i) := by
  obtain ⟨ad, c, e, _, hK, hc0⟩ := Kd.C_get h ([] : List ByteArray) i h0 h1
  have hc : ∀ j u, c[j]? = some u → w.cell? (ad.add (i.toNat * 1 + j)) = some u := hc0
  obtain ⟨A0, c0, rfl, l0, g0⟩ := hK
  exact ⟨ad, A0, c0, e, by have hq := hc 0 _ rfl; rwa [Nat.mul_one, Nat.add_zero] at hq, l0, g0⟩

/-! #### struct type 107 -/
structure S107 where
  f0 : Int
  f1 : (List ByteArray)
def z107 : S107 := ⟨(0 : Int), ([] : List ByteArray)⟩
def k107 : Kd S107 := Kd.iso (Kd.pair (Kd.int .i64) (Kd.slice 9 Kd.string)) (fun x : S107 => (x.f0, x.f1))
theorem k107_heap : Kd.Heap k107 := Kd.heap_iso _ (Kd.heap_pair (Kd.heap_int .i64) (Kd.heap_slice 9 Kd.heap_string))
theorem k107_open {w : World} {x : S107} {cs : List Value} (h : k107.K w x cs) : ∃ A1 c1, cs = [.int .i64 x.f0, .slice A1 x.f1.length c1] ∧ x.f1.length ≤ c1 ∧ Kd.string.C w A1 x.f1.length x.f1 := by
  obtain ⟨_, _, rfl, rfl, ⟨A1, c1, rfl, l1, g1⟩⟩ := h
  exact ⟨A1, c1, rfl, l1, g1⟩
theorem k107_openM {w : World} {base : Nat} {ok : Nat → Prop} {x : S107} {cs : List Value} (h : k107.M w base ok x cs) : ∃ v1, cs = [.int .i64 x.f0, v1] ∧ Kd.string.R 9 w base ok v1 x.f1 := by
  obtain ⟨_, _, rfl, rfl, ⟨v1, rfl, g1⟩⟩ := h
  exact ⟨v1, rfl, g1⟩
theorem k107_mk (w : World) (x : S107) {A1 : Option Addr} {c1 : Nat} (l1 : x.f1.length ≤ c1) (g1 : Kd.string.C w A1 x.f1.length x.f1) : k107.K w x [.int .i64 x.f0, .slice A1 x.f1.length c1] := ⟨[.int .i64 x.f0], [.slice A1 x.f1.length c1], rfl, rfl, ⟨A1, c1, rfl, l1, g1⟩⟩
theorem k107_mkM (w : World) (base : Nat) (ok : Nat → Prop) (x : S107) {v1 : Value} (g1 : Kd.string.R 9 w base ok v1 x.f1) : k107.M w base ok x [.int .i64 x.f0, v1] := ⟨[.int .i64 x.f0], [v1], rfl, rfl, ⟨v1, rfl, g1⟩⟩
theorem k107_openF {W : World} {ok : Nat → Prop} {x : S107} {cs : List Value} (h : Kd.FK k107 W ok x cs) : ∃ A1 c1, cs = [.int .i64 x.f0, .slice A1 x.f1.length c1] ∧ x.f1.length ≤ c1 ∧ Kd.F Kd.string W ok A1 x.f1.length x.f1 := by
  obtain ⟨A1, c1, rfl, l1, _⟩ := k107_open (Kd.FK_now h)
  exact ⟨A1, c1, rfl, l1, (fun W' hW => by obtain ⟨A1_, c1_, he, l1_, g1_⟩ := k107_open (h W' hW); injection (Option.some.inj (show some (Value.slice A1 x.f1.length c1) = some (Value.slice A1_ x.f1.length c1_) from congrArg (fun l => l[1]?) he)) with ha_ _ _; rw [ha_]; exact g1_)⟩
theorem k107_mkF (W : World) (ok : Nat → Prop) (x : S107) {A1 : Option Addr} {c1 : Nat} (l1 : x.f1.length ≤ c1) (g1 : Kd.F Kd.string W ok A1 x.f1.length x.f1) : Kd.FK k107 W ok x [.int .i64 x.f0, .slice A1 x.f1.length c1] := fun W2 hW => k107_mk W2 x l1 (g1 W2 hW)
def rd_T107 (xs : List S107) (i : Int) : S107 := xs.getD i.toNat z107
theorem at_T107 {w : World} {A : Option Addr} {n : Nat} {xs : List S107} (h : Kd.C k107 w A n xs) (i : Int) (h0 : 0 ≤ i) (h1 : i < n) : ∃ ad A1 c1, A = some ad ∧ w.cell? (ad.add (i.toNat * 2)) = some (.int .i64 (rd_T107 xs i).f0) ∧ w.cell? ⟨(ad.add (i.toNat * 2)).block, (ad.add (i.toNat * 2)).off + 1, none⟩ = some (.slice A1 (rd_T107 xs i).f1.length c1) ∧ (rd_T107 xs i).f1.length ≤ c1 ∧ Kd.string.C w A1 (rd_T107 xs i).f1.length (rd_T107 xs i).f1 := by
  obtain ⟨ad, c, e, _, hK, hc0⟩ := Kd.C_get h z107 i h0 h1
  have hc : ∀ j u, c[j]? = some u → w.cell? (ad.add (i.toNat * 2 + j)) = some u := hc0
  obtain ⟨A1, c1, rfl, l1, g1⟩ := k107_open hK
  exact ⟨ad, A1, c1, e, hc 0 _ rfl, by rw [← add_field _ _ 1 (by omega)]; exact hc 1 _ rfl, l1, g1⟩

/-- A book in memory: block g; what its lines lead to lies in other blocks below M. -/
def BK (W : World) (g M : Nat) (ls : List S107) (all last err place : Int) : Prop :=
  ∃ A c, W.heap[g]? = some (.cells #[.slice A ls.length c, .int .i64 all, .int .i64 last, .int .i64 err, .int .i64 place] 105 (0, 0)) ∧ ls.length ≤ c ∧ Kd.F k107 W (fun k => k ≠ g ∧ k < M) A ls.length ls ∧ g < M ∧ M ≤ W.heap.size

/-- whatever keeps the book's block, and all others below M. -/
theorem BK.keep {W W1 : World} {g M : Nat} {ls : List S107} {all last err place : Int} (h : BK W g M ls all last err place) (hs : M ≤ W1.heap.size) (hw : ∀ k, k < M → W1.heap[k]? = W.heap[k]?) : BK W1 g M ls all last err place := by
  obtain ⟨A, c, hg, hc, hF, h1, h2⟩ := h
  exact ⟨A, c, (hw g h1).trans hg, hc, Kd.F_step hF (fun k hk _ => hw k hk.2), h1, hs⟩
theorem BK.step {W W1 : World} {g M : Nat} {ls : List S107} {all last err place : Int} (h : BK W g M ls all last err place) (hw : Below W.heap.size W W1) : BK W1 g M ls all last err place := by
  have h2 := h
  obtain ⟨A, c, hg, hc, hF, h1, h3⟩ := h2
  exact h.keep (Nat.le_trans h3 hw.size) (fun k hk => hw.block k (Nat.lt_of_lt_of_le hk h3))
theorem BK.cells {W : World} {g M : Nat} {ls : List S107} {all last err place : Int} (h : BK W g M ls all last err place) :
    ∃ A c, W.cell? ⟨g, 0, none⟩ = some (.slice A ls.length c) ∧ W.cell? ⟨g, 1, none⟩ = some (.int .i64 all) ∧ W.cell? ⟨g, 2, none⟩ = some (.int .i64 last) ∧ W.cell? ⟨g, 3, none⟩ = some (.int .i64 err) ∧
      W.cell? ⟨g, 4, none⟩ = some (.int .i64 place) ∧ (∀ j, W.frozen? ⟨g, j, none⟩ = false) ∧ g < W.heap.size ∧ ls.length ≤ c ∧ Kd.F k107 W (fun k => k ≠ g ∧ k < M) A ls.length ls := by
  obtain ⟨A, c, hg, hc, hF, h1, h2⟩ := h
  exact ⟨A, c, by rw [blk_cell hg]; rfl, by rw [blk_cell hg]; rfl, by rw [blk_cell hg]; rfl, by rw [blk_cell hg]; rfl, by rw [blk_cell hg]; rfl, blk_frozen hg, blk_lt hg, hc, hF⟩
theorem BK.bnd {W : World} {g M : Nat} {ls : List S107} {all last err place : Int} (h : BK W g M ls all last err place) : g < M ∧ M ≤ W.heap.size := by
  obtain ⟨A, c, hg, hc, hF, h1, h2⟩ := h
  exact ⟨h1, h2⟩

theorem grown_refl (w : World) (row : Option Nat) : w.grownBy w row := ⟨rfl, rfl, rfl, Nat.le_refl _, fun _ _ _ => rfl⟩
theorem grown_set {w w1 : World} {g : Nat} (h : w.grownBy w1 (some g)) (j : Nat) (u : Value) : w.grownBy (w1.setCell ⟨g, j, none⟩ u) (some g) := by
  obtain ⟨h1, h2, h3, h4, h5⟩ := h
  refine ⟨h1, h2, h3, by simpa using h4, fun k hk hne => ?_⟩
  rw [Below.heap_setCell w1 ⟨g, j, none⟩ u k (fun he => hne (by rw [he]))]
  exact h5 k hk hne
theorem grown_below {w w1 w2 : World} {row : Option Nat} (h : w.grownBy w1 row) (hb : Below w1.heap.size w1 w2) : w.grownBy w2 row :=
  ⟨hb.os.trans h.1, hb.tape.trans h.2, hb.output.trans h.3, Nat.le_trans h.4 hb.size, fun k hk hne => (hb.block k (Nat.lt_of_lt_of_le hk h.4)).trans (h.5 k hk hne)⟩
theorem grown_trans {w w1 w2 : World} {row : Option Nat} (h : w.grownBy w1 row) (hb : w1.grownBy w2 row) : w.grownBy w2 row :=
  ⟨hb.1.trans h.1, hb.2.trans h.2, hb.3.trans h.3, Nat.le_trans h.4 hb.4, fun k hk hne => (hb.5 k (Nat.lt_of_lt_of_le hk h.4) hne).trans (h.5 k hk hne)⟩

/-- behind a store into the book's own block. -/
theorem BK.mk_set {w w1 : World} {g M : Nat} {ls ls' : List S107} {all last err place all' last' err' place' : Int} {A A' : Option Addr} {c c' : Nat}
    (h : w.heap[g]? = some (.cells #[.slice A ls.length c, .int .i64 all, .int .i64 last, .int .i64 err, .int .i64 place] 105 (0, 0))) (hb : g < M ∧ M ≤ w.heap.size)
    (hF : Kd.F k107 w (fun k => k ≠ g ∧ k < M) A' ls'.length ls') (hc' : ls'.length ≤ c') (hw : w.grownBy w1 (some g))
    (h1 : w1.heap[g]? = some (.cells #[.slice A' ls'.length c', .int .i64 all', .int .i64 last', .int .i64 err', .int .i64 place'] 105 (0, 0))) :
    BK w1 g M ls' all' last' err' place' :=
  ⟨A', c', h1, hc', Kd.F_step hF (fun k hk hlt => hw.block k hlt (fun he => hk.1 (by injection he))), hb.1, Nat.le_trans hb.2 hw.4⟩

set_option maxHeartbeats 400000 in
/-- Book.good. -/
theorem good_any (g M : Nat) (ls : List S107) (all last err place : Int) (w : World) (h : BK w g M ls all last err place) :
    Calls Tryd.prog 69 #[.pointer (some ⟨g, 0, none⟩)] w fun e w' => e = .returned (.bool (err == 0)) ∧ w' = w := by
  obtain ⟨A, c, c0, c1, c2, c3, c4, hf, hlt, hc, hF⟩ := h.cells
  clear hF h hf
  go_enter Tryd.func69, Tryd.ntmps69
  go_wp2
  go_ret
  exact ⟨rfl, rfl⟩

/-- the first error stays. -/
def failE (err e : Int) : Int := if err = 0 ∧ e ≠ 0 then e else err
def failP (err e place at_ : Int) : Int := if err = 0 ∧ e ≠ 0 then at_ else place
theorem failE_old {err e : Int} (h : ¬ (err = 0 ∧ e ≠ 0)) : failE err e = err := if_neg h
theorem failP_old {err e place at_ : Int} (h : ¬ (err = 0 ∧ e ≠ 0)) : failP err e place at_ = place := if_neg h
theorem failE_new {err e : Int} (h : err = 0 ∧ e ≠ 0) : failE err e = e := if_pos h
theorem failP_new {err e place at_ : Int} (h : err = 0 ∧ e ≠ 0) : failP err e place at_ = at_ := if_pos h

set_option maxHeartbeats 400000 in
/-- Book.fail. -/
theorem fail_any (g M : Nat) (ls : List S107) (all last err place e at_ : Int) (w : World) (h : BK w g M ls all last err place) :
    Calls Tryd.prog 70 #[.pointer (some ⟨g, 0, none⟩), .int .i64 e, .int .i64 at_] w fun en w' => en = .returned (.tuple #[]) ∧
      BK w' g M ls all last (failE err e) (failP err e place at_) ∧ w.grownBy w' (some g) := by
  have hgood := good_any g M ls all last err place w h
  by_cases h1 : err = 0
  · by_cases h2 : e = 0
    · have b1 : (err == 0) = true := beq_iff_eq.2 h1
      have b2 : (e != 0) = false := by simp [h2]
      have H := Lib.hid h1
      have H2 := Lib.hid h2
      clear h1 h2
      go_enter Tryd.func70, Tryd.ntmps70
      go_wp2_with (go_at_call 69; refine hgood.mono ?_; rintro e w' ⟨rfl, rfl⟩)
      go_end0
      rw [failE_old (fun hx => hx.2 H2.out), failP_old (fun hx => hx.2 H2.out)]
      exact ⟨rfl, h, grown_refl _ _⟩
    · have b1 : (err == 0) = true := beq_iff_eq.2 h1
      have b2 : (e != 0) = true := by simp [h2]
      have hcond : err = 0 ∧ e ≠ 0 := ⟨h1, h2⟩
      have HC := Lib.hid hcond
      clear hcond h1 h2
      have hbnd := h.bnd
      obtain ⟨A, c, hg, hc, hF, _⟩ := h
      have c3 : w.cell? ⟨g, 3, none⟩ = some (.int .i64 err) := by rw [blk_cell hg]; rfl
      have c4 : w.cell? ⟨g, 4, none⟩ = some (.int .i64 place) := by rw [blk_cell hg]; rfl
      have f3 := blk_frozen hg 3
      have f4 := blk_frozen hg 4
      have HG := Lib.hid hg
      have HF := Lib.hid hF
      clear hg hF
      go_enter Tryd.func70, Tryd.ntmps70
      go_wp2_with (go_at_call 69; refine hgood.mono ?_; rintro e w' ⟨rfl, rfl⟩)
      go_end0
      rw [failE_new HC.out, failP_new HC.out]
      have hgr := grown_set (grown_set (grown_refl w' (some g)) 3 (.int .i64 e)) 4 (.int .i64 at_)
      exact ⟨rfl, BK.mk_set HG.out hbnd HF.out hc hgr (blk_set (blk_set HG.out _ _) _ _), hgr⟩
  · have b1 : (err == 0) = false := by simp [h1]
    have H := Lib.hid h1
    clear h1
    go_enter Tryd.func70, Tryd.ntmps70
    go_wp2_with (go_at_call 69; refine hgood.mono ?_; rintro e w' ⟨rfl, rfl⟩)
    go_end0
    rw [failE_old (fun hx => H.out hx.1), failP_old (fun hx => H.out hx.1)]
    exact ⟨rfl, h, grown_refl _ _⟩
end Go.Proofs.YtbhbpopebmdemaaDoor
