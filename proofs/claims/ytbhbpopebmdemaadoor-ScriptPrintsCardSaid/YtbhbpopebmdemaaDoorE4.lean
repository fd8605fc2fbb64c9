import Derived.Test.YtbhbpopebmdemaaDoorE3
namespace Go.Proofs.YtbhbpopebmdemaaDoor
open Go.RowKit Go.Proofs.YtbhbpopebmdemaaDoorW.PrintWords Go.Proofs.YtbhbpopebmdemaaDoorW.PrintLast Go.Proofs.YtbhbpopebmdemaaDoorW.PrintMore
open ChiPure Go.Lib Go.Shelf
set_option linter.unusedVariables false
set_option linter.unusedSimpArgs false
attribute [local go_sem high] PA.eqA35

theorem lead_get (y : Ctl) : ∀ (xs : List Ctl) (j : Nat), j < lead y xs → xs[j]? = some y
  | [], j, h => by simp [lead] at h
  | x :: xs, j, h => by
    unfold lead at h
    split at h
    · rename_i hx
      cases j with
      | zero => rw [(eqC_iff x y).1 hx]; rfl
      | succ j => rw [List.getElem?_cons_succ]; exact lead_get y xs j (by omega)
    · omega
theorem lead_stop (y : Ctl) : ∀ (xs : List Ctl), xs[lead y xs]? ≠ some y
  | [] => by simp [lead]
  | x :: xs => by
    unfold lead
    split
    · rw [List.getElem?_cons_succ]; exact lead_stop y xs
    · rename_i hx
      intro h
      rw [List.getElem?_cons_zero] at h
      injection h with h
      exact hx ((eqC_iff x y).2 h)
theorem rd_of {xs : List Ctl} {i : Nat} {x : Ctl} (h : xs[i]? = some x) : PA.rd_T35 xs (i : Int) = x := by
  unfold PA.rd_T35
  rw [Int.toNat_natCast, List.getD_eq_getElem?_getD, h]
  rfl

def runsN (xs : List Ctl) : List Int := (runsL xs).map (fun p => (p.2 : Int))

/-- i runs are over: as many controls as at. -/
def RunsAt (xs : List Ctl) (i at' : Nat) : Prop :=
  at' ≤ xs.length ∧ (∃ pre, runsL xs = pre ++ runsL (xs.drop at') ∧ pre.length = i) ∧ (0 < at' → at' < xs.length → eqC (PA.rd_T35 xs (at' : Int)) (PA.rd_T35 xs ((at' - 1 : Nat) : Int)) = false)
theorem RunsAt.zero (xs : List Ctl) : RunsAt xs 0 0 := ⟨Nat.zero_le _, ⟨[], rfl, rfl⟩, fun h => absurd h (Nat.lt_irrefl _)⟩
theorem RunsAt.last {xs : List Ctl} {i at' : Nat} (h : RunsAt xs i at') (hi : i = (runsN xs).length) : at' = xs.length := by
  obtain ⟨h1, ⟨pre, h2, h3⟩, _⟩ := h
  have hl := congrArg List.length h2
  rw [List.length_append] at hl
  unfold runsN at hi
  rw [List.length_map] at hi
  have h0 : (runsL (xs.drop at')).length = 0 := by omega
  cases hd : xs.drop at' with
  | nil =>
    have := congrArg List.length hd
    rw [List.length_drop, List.length_nil] at this
    omega
  | cons x r =>
    rw [hd, runsL_cons] at h0
    simp at h0
theorem RunsAt.step {xs : List Ctl} {i at' : Nat} (h : RunsAt xs i at') (hi : i < (runsN xs).length) :
    ∃ k : Nat, rd (runsN xs) (i : Int) = (k : Int) ∧ 1 ≤ k ∧ at' + k ≤ xs.length ∧ (∀ j, j < k → eqC (PA.rd_T35 xs ((at' + j : Nat) : Int)) (PA.rd_T35 xs (at' : Int)) = true) ∧ RunsAt xs (i + 1) (at' + k) := by
  obtain ⟨h1, ⟨pre, h2, h3⟩, h4⟩ := h
  cases hd : xs.drop at' with
  | nil =>
    rw [hd] at h2
    unfold runsN at hi
    rw [List.length_map, h2] at hi
    simp [runsL, runsF] at hi
    omega
  | cons x r =>
    rw [hd, runsL_cons] at h2
    have hk1 := lead_pos x r
    have hk2 := lead_le x (x :: r)
    have hlen := congrArg List.length hd
    rw [List.length_drop] at hlen
    have hget : ∀ j, xs[at' + j]? = (x :: r)[j]? := fun j => by rw [← hd, List.getElem?_drop]
    have hx0 : PA.rd_T35 xs (at' : Int) = x := rd_of (by have := hget 0; simpa using this)
    have hsame : ∀ j, j < lead x (x :: r) → PA.rd_T35 xs ((at' + j : Nat) : Int) = x := fun j hj => rd_of ((hget j).trans (lead_get x _ j hj))
    refine ⟨lead x (x :: r), ?_, hk1, by simp at hlen hk2; omega, fun j hj => ?_, by simp at hlen hk2; omega, ⟨pre ++ [(x, lead x (x :: r))], ?_, by simp [h3]⟩, fun _ hlt => ?_⟩
    · unfold rd runsN
      rw [h2, List.map_append, Int.toNat_natCast, List.getD_eq_getElem?_getD, List.getElem?_append_right (by simp [h3])]
      simp [h3]
    · rw [hsame j hj, hx0]; exact eqC_refl x
    · rw [h2, ← List.drop_drop, hd]; simp
    · have e1 : PA.rd_T35 xs ((at' + lead x (x :: r) - 1 : Nat) : Int) = x := by
        have := hsame (lead x (x :: r) - 1) (by omega)
        rwa [show at' + (lead x (x :: r) - 1) = at' + lead x (x :: r) - 1 from by omega] at this
      rw [e1, Bool.eq_false_iff]
      intro he
      have he := (eqC_iff _ _).1 he
      have hs := lead_stop x (x :: r)
      rw [← hget] at hs
      apply hs
      rw [List.getElem?_eq_getElem hlt]
      have := rd_of (xs := xs) (i := at' + lead x (x :: r)) (List.getElem?_eq_getElem hlt)
      rw [← this, he]

theorem wrapI (n : Int) (h1 : -9223372036854775808 ≤ n) (h2 : n ≤ 9223372036854775807) : IntKind.i64.wrap n = n := by
  simp only [IntKind.wrap, show IntKind.i64.signed = true from rfl, show IntKind.i64.bits = 64 from rfl, Bool.true_and, decide_eq_true_eq]
  split <;> omega

def ORel (xs : List Ctl) (w1 : World) (kq : Nat) (v3 v5 : Value) (wr : World) : Prop :=
  ∃ i at' : Nat, v3 = .int .i64 (at' : Int) ∧ v5 = .int .i64 (i : Int) ∧ RunsAt xs i at' ∧ i + kq = (runsN xs).length ∧ Drawn0 w1 wr
def IRel (k : Nat) (w1 : World) (kq : Nat) (v6 : Value) (wr : World) : Prop :=
  ∃ j : Nat, v6 = .int .i64 (j : Int) ∧ 1 ≤ j ∧ j + kq = k ∧ Drawn0 w1 wr

set_option maxRecDepth 100000 in
set_option maxHeartbeats 4000000 in
theorem scriptRuns_any (A : Option Addr) (c : Nat) (xs : List Ctl) (m : Int) (w : World) (hm : w.cell? ⟨2, 0, none⟩ = some (.int .i64 m)) (hc : xs.length ≤ c) (hF : Kd.F PA.k35 w (fun k => k < w.heap.size) A xs.length xs) :
    Calls Tryd.prog 7 #[.slice A xs.length c] w fun e w' => e = .returned (.bool true) ∧ Below w.heap.size w w' := by
  have hu35 := Tryd.underlying35
  by_cases hbig : 500 < xs.length
  · have hlt : decide ((500 : Int) < (xs.length : Int)) = true := by simp; omega
    go_enter Tryd.func7, Tryd.ntmps7
    go_wp2_with fail
    go_ret
    exact ⟨rfl, Below.refl _ _⟩
  · have hlt : decide ((500 : Int) < (xs.length : Int)) = false := by simp; omega
    have h2 : 2 < w.heap.size := by
      obtain ⟨o, ho, _⟩ := cells_of_cell hm
      exact (Array.getElem?_eq_some_iff.1 ho).1
    have hruns := Runs_any A c xs w hc hF (by omega)
    go_enter Tryd.func7, Tryd.ntmps7
    go_wp2_with fail
    refine hruns.mono ?_
    rintro e w1 ⟨v, rfl, hown, hb1⟩
    clear hruns
    have hown2 : w1.ownsRow w.heap.size 3 1 v (runsN xs).length (nums .i64 (runsN xs)) := by
      have e1 : (runsN xs).length = (runsL xs).length := by simp [runsN]
      have e2 : nums .i64 (runsN xs) = (runsL xs).map runN := by simp [nums, runsN, runN]
      rw [e1, e2]; exact hown
    obtain ⟨Av, cv, rfl, hRv⟩ := own_reads hown2
    have hNl : (runsN xs).length ≤ xs.length := by have := runsL_len xs; simpa [runsN] using this
    have hm1 := (hb1.cell h2).trans hm
    have hC1 := Kd.F_now (Kd.F_below hF hb1)
    clear hown hown2 hF hm
    have HC := Lib.hid hC1
    have HR := Lib.hid hRv
    have HB := Lib.hid hb1
    clear hC1 hRv hb1
    go_wp2_with fail
    go_loopg [3, 5] (runsN xs).length (fun kq v3 v5 wr => Hid (ORel xs w1 kq v3 v5 wr))
    case atStart => exact ⟨0, 0, rfl, rfl, RunsAt.zero xs, by omega, Drawn0.refl _⟩
    case round =>
      have hrel' := hrel.out
      clear hrel
      obtain ⟨i, at', rfl, rfl, hat, hi, ⟨m1, rfl⟩⟩ := hrel'
      cases gk with
      | zero =>
        have hlast := hat.last (by omega)
        have hlt2 : decide ((i : Int) < ((runsN xs).length : Int)) = false := by simp; omega
        have hq : ((at' : Int) == (xs.length : Int)) = true := by simp; omega
        have haw := awake_any m (w1.drewN m1) hm1
        have hbd := pw_below_drewN HB.out m1
        clear hat
        go_wp2_with fail
        refine haw.mono ?_
        rintro e w2 ⟨rfl, hb2⟩
        clear haw
        go_wp2_with fail
        go_ret
        exact ⟨rfl, hbd.trans (hb2.mono hbd.size)⟩
      | succ k1 =>
        have hlt2 : decide ((i : Int) < ((runsN xs).length : Int)) = true := by simp; omega
        have hlt3 : decide ((0 : Int) ≤ (i : Int)) = true := by simp
        obtain ⟨k, hk, hk1, hk2, hsame, hnext⟩ := hat.step (by omega)
        obtain ⟨ad, rfl, x0⟩ := HR.out.at_ i (by omega) (by omega)
        rw [hk, Int.toNat_natCast] at x0
        have ht1 : decide ((k : Int) < 1) = false := by simp; omega
        have ht2 : decide ((xs.length : Int) - (at' : Int) < (k : Int)) = false := by simp; omega
        have hat0 := hat.2.2
        have hatl : at' < xs.length := by omega
        clear hat
        have hnz : rd (runsN xs) (i : Int) = (k : Int) := hk
        rcases Nat.eq_zero_or_pos at' with h0 | h0
        · have hz : decide ((0 : Int) < (at' : Int)) = false := by simp; omega
          have hz2 : decide (0 < at') = false := by simp; omega
          clear h0 hat0
          obtain ⟨a1, rfl, y0, y1, y2, y3, y4, y5, y6⟩ := PA.at_T35 HC.out (at' : Int) (by omega) (by omega)
          rw [Int.toNat_natCast] at y0 y1 y2 y3 y4 y5 y6
          have hw0 : IntKind.i64.wrap ((xs.length : Int) - (at' : Int)) = (xs.length : Int) - (at' : Int) := wrapI _ (by omega) (by omega)
          have hb2 : decide ((at' : Int) < (xs.length : Int)) = true := by simp; omega
          have hb3 : decide ((0 : Int) ≤ (at' : Int)) = true := by simp
          go_wp2_with fail
          go_quiet (fail)
          clear hw0
          go_wp2_with fail
          go_loopg [6] (k - 1) (fun kq v6 wq => Hid (IRel k w1 kq v6 wq))
          case atStart => exact ⟨1, rfl, by omega, by omega, ⟨_, World.drewN_drewN _ _ _⟩⟩
          case round =>
            have hrel2 := hrel.out
            clear hrel
            obtain ⟨j, rfl, hj1, hjk, ⟨m2, rfl⟩⟩ := hrel2
            cases gk with
            | zero =>
              have hjl : decide ((j : Int) < (k : Int)) = false := by simp; omega
              have hwa : IntKind.i64.wrap ((at' : Int) + (k : Int)) = ((at' + k : Nat) : Int) := by rw [wrapI _ (by omega) (by omega)]; omega
              have hwi : IntKind.i64.wrap ((i : Int) + 1) = ((i + 1 : Nat) : Int) := by rw [wrapI _ (by omega) (by omega)]; omega
              skip
              go_wp2_with fail
              go_roundg k1
              case rel => exact ⟨i + 1, at' + k, by simp, by simp, hnext, by omega, ⟨_, rfl⟩⟩
              case measure => omega
            | succ k2 =>
              have hjl : decide ((j : Int) < (k : Int)) = true := by simp; omega
              have hj0 : decide ((0 : Int) ≤ (j : Int)) = true := by simp
              have heq := hsame j (by omega)
              obtain ⟨s, hs⟩ : ∃ s, at' + j = s := ⟨_, rfl⟩
              rw [hs] at heq
              unfold eqC at heq
              obtain ⟨a3, ha3, y0, y1, y2, y3, y4, y5, y6⟩ := PA.at_T35 HC.out (s : Int) (by omega) (by omega)
              cases ha3
              rw [Int.toNat_natCast] at y0 y1 y2 y3 y4 y5 y6
              have hwa : IntKind.i64.wrap ((at' : Int) + (j : Int)) = (s : Int) := by rw [wrapI _ (by omega) (by omega)]; omega
              have hwj : IntKind.i64.wrap ((j : Int) + 1) = ((j + 1 : Nat) : Int) := by rw [wrapI _ (by omega) (by omega)]; omega
              have hb4 : decide ((0 : Int) ≤ (s : Int)) = true := by simp
              have hb5 : decide ((s : Int) < (xs.length : Int)) = true := by simp; omega
              have hsl : s < xs.length := by omega
              clear hs
              go_wp2_with fail
              go_quiet (fail)
              go_wp2_with fail
              go_roundg k2
              case rel => exact ⟨j + 1, by simp, by omega, by omega, ⟨_, rfl⟩⟩
              case measure => omega
        · have hz : decide ((0 : Int) < (at' : Int)) = true := by simp; omega
          have hne := hat0 h0 hatl
          clear hat0
          obtain ⟨b, hbe⟩ : ∃ b, at' - 1 = b := ⟨at' - 1, rfl⟩
          rw [hbe] at hne
          have hwb : IntKind.i64.wrap ((at' : Int) - 1) = (b : Int) := by rw [wrapI _ (by omega) (by omega)]; omega
          unfold eqC at hne
          obtain ⟨a1, rfl, y0, y1, y2, y3, y4, y5, y6⟩ := PA.at_T35 HC.out (at' : Int) (by omega) (by omega)
          obtain ⟨a2, ha2, z0, z1, z2, z3, z4, z5, z6⟩ := PA.at_T35 HC.out (b : Int) (by omega) (by omega)
          cases ha2
          rw [Int.toNat_natCast] at y0 y1 y2 y3 y4 y5 y6 z0 z1 z2 z3 z4 z5 z6
          have hw0 : IntKind.i64.wrap ((xs.length : Int) - (at' : Int)) = (xs.length : Int) - (at' : Int) := wrapI _ (by omega) (by omega)
          have hb0 : decide ((0 : Int) ≤ (b : Int)) = true := by simp
          have hb1 : decide ((b : Int) < (xs.length : Int)) = true := by simp; omega
          have hb2 : decide ((at' : Int) < (xs.length : Int)) = true := by simp; omega
          have hb3 : decide ((0 : Int) ≤ (at' : Int)) = true := by simp
          go_wp2_with fail
          go_quiet (fail)
          clear hne z0 z1 z2 z3 z4 z5 z6 hw0 hwb hb0 hb1
          go_wp2_with fail
          go_loopg [6] (k - 1) (fun kq v6 wq => Hid (IRel k w1 kq v6 wq))
          case atStart => exact ⟨1, rfl, by omega, by omega, ⟨_, World.drewN_drewN _ _ _⟩⟩
          case round =>
            have hrel2 := hrel.out
            clear hrel
            obtain ⟨j, rfl, hj1, hjk, ⟨m2, rfl⟩⟩ := hrel2
            cases gk with
            | zero =>
              have hjl : decide ((j : Int) < (k : Int)) = false := by simp; omega
              have hwa : IntKind.i64.wrap ((at' : Int) + (k : Int)) = ((at' + k : Nat) : Int) := by rw [wrapI _ (by omega) (by omega)]; omega
              have hwi : IntKind.i64.wrap ((i : Int) + 1) = ((i + 1 : Nat) : Int) := by rw [wrapI _ (by omega) (by omega)]; omega
              skip
              go_wp2_with fail
              go_roundg k1
              case rel => exact ⟨i + 1, at' + k, by simp, by simp, hnext, by omega, ⟨_, rfl⟩⟩
              case measure => omega
            | succ k2 =>
              have hjl : decide ((j : Int) < (k : Int)) = true := by simp; omega
              have hj0 : decide ((0 : Int) ≤ (j : Int)) = true := by simp
              have heq := hsame j (by omega)
              obtain ⟨s, hs⟩ : ∃ s, at' + j = s := ⟨_, rfl⟩
              rw [hs] at heq
              unfold eqC at heq
              obtain ⟨a3, ha3, y0, y1, y2, y3, y4, y5, y6⟩ := PA.at_T35 HC.out (s : Int) (by omega) (by omega)
              cases ha3
              rw [Int.toNat_natCast] at y0 y1 y2 y3 y4 y5 y6
              have hwa : IntKind.i64.wrap ((at' : Int) + (j : Int)) = (s : Int) := by rw [wrapI _ (by omega) (by omega)]; omega
              have hwj : IntKind.i64.wrap ((j : Int) + 1) = ((j + 1 : Nat) : Int) := by rw [wrapI _ (by omega) (by omega)]; omega
              have hb4 : decide ((0 : Int) ≤ (s : Int)) = true := by simp
              have hb5 : decide ((s : Int) < (xs.length : Int)) = true := by simp; omega
              have hsl : s < xs.length := by omega
              clear hs
              go_wp2_with fail
              go_quiet (fail)
              go_wp2_with fail
              go_roundg k2
              case rel => exact ⟨j + 1, by simp, by omega, by omega, ⟨_, rfl⟩⟩
              case measure => omega
end Go.Proofs.YtbhbpopebmdemaaDoor
