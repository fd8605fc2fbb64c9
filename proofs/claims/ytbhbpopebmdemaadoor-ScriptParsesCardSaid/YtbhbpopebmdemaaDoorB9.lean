import Derived.Test.YtbhbpopebmdemaaDoorB8
namespace Go.Proofs.YtbhbpopebmdemaaDoor
open Go.RowKit Go.Proofs.YtbhbpopebmdemaaDoorW.PrintWords Go.Proofs.YtbhbpopebmdemaaDoorW.PrintLast Go.Proofs.YtbhbpopebmdemaaDoorW.PrintMore
open ChiPure Go.Lib Go.Shelf
set_option linter.unusedVariables false
set_option linter.unusedSimpArgs false

abbrev Ctl := PA.S35
def ctlC (x : Ctl) : List Value := [.int .i64 x.f0, .int .i64 x.f1, .int .i64 x.f2, .int .i64 x.f3, .int .i64 x.f4, .bool x.f5, .bool x.f6]
theorem ctlC_len (x : Ctl) : (ctlC x).length = 7 := rfl
theorem ctlC_one (x : Ctl) : ∀ v ∈ ctlC x, v.oneCell' = true := by
  intro v hv
  simp only [ctlC, List.mem_cons, List.not_mem_nil, or_false] at hv
  rcases hv with rfl | rfl | rfl | rfl | rfl | rfl | rfl <;> rfl
theorem flat_len (xs : List Ctl) : (xs.flatMap ctlC).length = xs.length * 7 := by
  induction xs with
  | nil => rfl
  | cons x xs ih => simp [List.flatMap_cons, ih, ctlC_len, Nat.add_mul]; omega
theorem flat_at (xs : List Ctl) : ∀ (j : Nat) (x : Ctl), xs[j]? = some x → ((xs.flatMap ctlC).drop (j * 7)).take 7 = ctlC x := by
  induction xs with
  | nil => intro j x h; simp at h
  | cons y xs ih =>
    intro j x h
    cases j with
    | zero =>
      simp at h
      subst h
      rw [List.flatMap_cons, Nat.zero_mul, List.drop_zero, List.take_append_of_le_length (by rw [ctlC_len]; exact Nat.le_refl _), List.take_of_length_le (by rw [ctlC_len]; exact Nat.le_refl _)]
    | succ j =>
      have e : (j + 1) * 7 = (ctlC y).length + j * 7 := by rw [ctlC_len]; omega
      rw [List.flatMap_cons, e, ← List.drop_drop, List.drop_left]
      exact ih j x (by simpa using h)
theorem rep_flat (c : Ctl) (n : Nat) : repC (ctlC c) n = (List.replicate n c).flatMap ctlC := by
  unfold repC
  rw [List.flatMap_def, List.map_replicate]

theorem R_of_flat {w : World} {base : Nat} {v : Value} {xs : List Ctl} (h : w.ownsRow base 35 7 v xs.length (xs.flatMap ctlC)) : Kd.R PA.k35 35 w base (fun _ => True) v xs := by
  refine ⟨fun _ _ => trivial, xs.flatMap ctlC, h, ?_, ?_⟩
  · rw [flat_len]; rfl
  · intro j p hj
    show PA.k35.M w base _ p (((xs.flatMap ctlC).drop (j * 7)).take 7)
    rw [flat_at xs j p hj]
    exact PA.k35_mkM w base _ p

/-- a line's control. -/
def takeC (last : Int) (st : Int × Int) (p : List ByteArray) : Ctl :=
  ⟨intsN last st p 1, intsN last st p 2, intsN last st p 3, intsN last st p 4, intsN last st p 5, takeAuto last st p, takeReset last st p⟩

def wScript : ByteArray := ⟨#[115, 99, 114, 105, 112, 116]⟩
def wDo : ByteArray := ⟨#[100, 111]⟩
def wEnd : ByteArray := ⟨#[101, 110, 100]⟩

/-- the lines of controls. -/
def pLoop (all : Int) : Nat → BS → List Ctl → BS × List Ctl
  | 0, b, out => (b, out)
  | f + 1, b, out =>
    if nx wDo b then
      (match (tk all wDo 6 8 b).1 with
      | none => ((tk all wDo 6 8 b).2, out)
      | some p =>
        if 16777216 - (out.length : Int) < intsN (tk all wDo 6 8 b).2.last ((tk all wDo 6 8 b).2.err, (tk all wDo 6 8 b).2.place) p 0 then
          pLoop all f ⟨(tk all wDo 6 8 b).2.ls, (tk all wDo 6 8 b).2.last, failE (takeSt (tk all wDo 6 8 b).2.last ((tk all wDo 6 8 b).2.err, (tk all wDo 6 8 b).2.place) p).1 42,
            failP (takeSt (tk all wDo 6 8 b).2.last ((tk all wDo 6 8 b).2.err, (tk all wDo 6 8 b).2.place) p).1 42 (takeSt (tk all wDo 6 8 b).2.last ((tk all wDo 6 8 b).2.err, (tk all wDo 6 8 b).2.place) p).2 (tk all wDo 6 8 b).2.last⟩ out
        else if (takeSt (tk all wDo 6 8 b).2.last ((tk all wDo 6 8 b).2.err, (tk all wDo 6 8 b).2.place) p).1 = 0 then
          pLoop all f ⟨(tk all wDo 6 8 b).2.ls, (tk all wDo 6 8 b).2.last, (takeSt (tk all wDo 6 8 b).2.last ((tk all wDo 6 8 b).2.err, (tk all wDo 6 8 b).2.place) p).1, (takeSt (tk all wDo 6 8 b).2.last ((tk all wDo 6 8 b).2.err, (tk all wDo 6 8 b).2.place) p).2⟩
            (out ++ List.replicate (intsN (tk all wDo 6 8 b).2.last ((tk all wDo 6 8 b).2.err, (tk all wDo 6 8 b).2.place) p 0).toNat (takeC (tk all wDo 6 8 b).2.last ((tk all wDo 6 8 b).2.err, (tk all wDo 6 8 b).2.place) p))
        else
          pLoop all f ⟨(tk all wDo 6 8 b).2.ls, (tk all wDo 6 8 b).2.last, (takeSt (tk all wDo 6 8 b).2.last ((tk all wDo 6 8 b).2.err, (tk all wDo 6 8 b).2.place) p).1, (takeSt (tk all wDo 6 8 b).2.last ((tk all wDo 6 8 b).2.err, (tk all wDo 6 8 b).2.place) p).2⟩ out)
    else (b, out)

def endR (b : BS) : Int × Int := match b.ls with
  | [] => (b.err, b.place)
  | x :: _ => (failE b.err 23, failP b.err 23 b.place x.f0)

theorem end_tot (g M : Nat) (all : Int) (b : BS) (w : World) (h : BK w g M b.ls all b.last b.err b.place) (hne : ∀ x ∈ b.ls, x.f1 ≠ []) :
    Calls Tryd.prog 35 #[.pointer (some ⟨g, 0, none⟩)] w fun e w' => e = .returned (.tuple #[.int .i64 (endR b).1, .int .i64 (endR b).2]) ∧ w.grownBy w' (some g) := by
  obtain ⟨ls, last, err, place⟩ := b
  unfold endR
  simp only at h hne ⊢
  cases ls with
  | nil => exact end_none g M all last err place w h
  | cons x r =>
    cases hx : x.f1 with
    | nil => exact absurd hx (hne x (by simp))
    | cons p ps => exact end_more g M x r all last err place p ps w h hx

theorem tk_sub (all : Int) (word : ByteArray) (least most : Int) (b : BS) : ∀ x ∈ (tk all word least most b).2.ls, x ∈ b.ls := by
  obtain ⟨ls, last, err, place⟩ := b
  unfold tk
  by_cases he : err = 0
  · simp only [he, if_true]
    cases ls with
    | nil => intro x hx; exact hx
    | cons y r =>
      cases hy : y.f1 with
      | nil => intro x hx; simpa [hy] using hx
      | cons p ps =>
        simp only [hy]
        split
        · split
          · intro x hx; exact hx
          · intro x hx; exact List.mem_cons_of_mem _ hx
        · intro x hx; exact hx
  · simp only [he, if_false]; intro x hx; exact hx

theorem tk_some {all : Int} {word : ByteArray} {least most : Int} {b : BS} {p : List ByteArray} (h : (tk all word least most b).1 = some p) :
    (tk all word least most b).2.ls.length + 1 = b.ls.length ∧ least ≤ (p.length : Int) ∧ (p.length : Int) ≤ most ∧ (tk all word least most b).2.err = 0 := by
  obtain ⟨ls, last, err, place⟩ := b
  unfold tk at h ⊢
  by_cases he : err = 0
  · simp only [he, if_true] at h ⊢
    cases ls with
    | nil => cases h
    | cons y r =>
      cases hy : y.f1 with
      | nil => simp [hy] at h
      | cons q ps =>
        simp only [hy] at h ⊢
        split at h
        · split at h
          · cases h
          · rename_i h1 h2
            injection h with h
            subst h
            rw [if_pos h1, if_neg h2]
            exact ⟨rfl, by omega, by omega, rfl⟩
        · cases h
  · simp only [he, if_false] at h
    cases h

theorem failE_zero {e : Int} (h : failE 0 e = 0) : e = 0 := by
  unfold failE at h
  by_cases he : e = 0
  · exact he
  · rw [if_pos ⟨rfl, he⟩] at h; exact h
theorem intStep_zero {last : Int} {st : Int × Int} {s : ByteArray} {lo hi : Int} (h : (intStep last st s lo hi).2.1 = 0) : st.1 = 0 ∧ (intR s lo hi).2 = 0 := by
  unfold intStep at h
  split at h
  · rename_i h0; exact ⟨h0, failE_zero h⟩
  · rename_i h0; exact absurd h h0
theorem oneStep_zero {last : Int} {st : Int × Int} {zs : List ByteArray} {s : ByteArray} (h : (oneStep last st zs s).2.1 = 0) : st.1 = 0 := by
  unfold oneStep at h
  split at h
  · rename_i h0; exact h0
  · rename_i h0; exact absurd h h0
theorem intsSt_zero {last : Int} {st : Int × Int} {p : List ByteArray} : ∀ {k : Nat}, (intsSt last st p k).1 = 0 → ∀ j, j < k → (intR (p.getD j ByteArray.empty) (bLow j) (bHigh j)).2 = 0 ∧ (intsSt last st p j).1 = 0
  | 0, _, j, hj => absurd hj (Nat.not_lt_zero _)
  | k + 1, h, j, hj => by
    have h2 := intStep_zero (show (intStep last (intsSt last st p k) (p.getD k ByteArray.empty) (bLow k) (bHigh k)).2.1 = 0 from h)
    by_cases e : j = k
    · subst e; exact ⟨h2.2, h2.1⟩
    · exact intsSt_zero h2.1 j (by omega)
theorem takeSt_zero {last : Int} {st : Int × Int} {p : List ByteArray} (h : (takeSt last st p).1 = 0) : (intsSt last st p 6).1 = 0 := by
  unfold takeSt at h
  split at h
  · exact oneStep_zero (oneStep_zero (oneStep_zero h))
  · split at h
    · exact oneStep_zero h
    · exact h
theorem intR_in {s : ByteArray} {lo hi : Int} (h : (intR s lo hi).2 = 0) : lo ≤ (intR s lo hi).1 ∧ (intR s lo hi).1 ≤ hi := by
  unfold intR at h ⊢
  split at h
  · simp at h
  · rename_i hc
    rw [if_neg hc]
    refine ⟨?_, ?_⟩
    · by_cases hh : (rdW s.data.toList).1 < lo
      · exact absurd ⟨h, Or.inl hh⟩ hc
      · omega
    · by_cases hh : hi < (rdW s.data.toList).1
      · exact absurd ⟨h, Or.inr hh⟩ hc
      · omega
theorem take_n {last : Int} {st : Int × Int} {p : List ByteArray} (h : (takeSt last st p).1 = 0) (k : Nat) (hk : k < 6) : bLow k ≤ intsN last st p k ∧ intsN last st p k ≤ bHigh k := by
  obtain ⟨h1, h2⟩ := intsSt_zero (takeSt_zero h) k hk
  have := intR_in h1
  unfold intsN intStep
  rw [if_pos h2]
  exact this
end Go.Proofs.YtbhbpopebmdemaaDoor
