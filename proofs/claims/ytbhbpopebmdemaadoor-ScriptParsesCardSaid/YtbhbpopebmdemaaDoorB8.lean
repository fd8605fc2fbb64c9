import Derived.Test.YtbhbpopebmdemaaDoorB7
namespace Go.Proofs.YtbhbpopebmdemaaDoor
open Go.RowKit Go.Proofs.YtbhbpopebmdemaaDoorW.PrintWords Go.Proofs.YtbhbpopebmdemaaDoorW.PrintLast Go.Proofs.YtbhbpopebmdemaaDoorW.PrintMore
open ChiPure Go.Lib Go.Shelf
set_option linter.unusedVariables false
set_option linter.unusedSimpArgs false

/-- a book: the lines that are left, the number of the line that was taken last, the first error and its place. -/
structure BS where
  ls : List S107
  last : Int
  err : Int
  place : Int

/-- is a line next? -/
def nx (word : ByteArray) (b : BS) : Bool :=
  if b.err = 0 then (match b.ls with
    | [] => false
    | x :: _ => match x.f1 with
      | [] => false
      | p :: _ => p.toList == word.toList) else false

/-- take a line. -/
def tk (all : Int) (word : ByteArray) (least most : Int) (b : BS) : Option (List ByteArray) × BS :=
  if b.err = 0 then (match b.ls with
    | [] => (none, ⟨[], b.last, 20, all + 1⟩)
    | x :: r => match x.f1 with
      | [] => (none, b)
      | p :: ps => if p = word then (if (ps.length : Int) < least ∨ most < (ps.length : Int) then (none, ⟨x :: r, b.last, 22, x.f0⟩) else (some ps, ⟨r, x.f0, 0, b.place⟩))
        else (none, ⟨x :: r, b.last, 21, x.f0⟩)) else (none, b)

/-- what a line that was asked for is. -/
def TakeR (r : Option (List ByteArray)) (w : World) (e : Ending) (w' : World) : Prop :=
  match r with
  | none => e = .returned (.slice none 0 0)
  | some ps => ∃ v, e = .returned v ∧ v ≠ .slice none 0 0 ∧ Kd.R Kd.string 9 w' w.heap.size (fun _ => True) v ps

theorem take_tot (g M : Nat) (all least most : Int) (b : BS) (word : ByteArray) (w : World) (h : BK w g M b.ls all b.last b.err b.place) (ha : 0 ≤ all ∧ all ≤ 4294967296)
    (hne : ∀ x ∈ b.ls, x.f1 ≠ [] ∧ x.f1.length ≤ 4294967296) :
    Calls Tryd.prog 29 #[.pointer (some ⟨g, 0, none⟩), .string word, .int .i64 least, .int .i64 most] w fun e w' => TakeR (tk all word least most b).1 w e w' ∧
      BK w' g M (tk all word least most b).2.ls all (tk all word least most b).2.last (tk all word least most b).2.err (tk all word least most b).2.place ∧ w.grownBy w' (some g) := by
  obtain ⟨ls, last, err, place⟩ := b
  unfold tk
  simp only at h hne ⊢
  by_cases he : err = 0
  · subst he
    simp only [if_true]
    cases ls with
    | nil => exact take_short g M all last place least most word w h ha
    | cons x r =>
      cases hx : x.f1 with
      | nil => exact absurd hx (hne x (by simp)).1
      | cons p ps =>
        simp only [hx]
        by_cases hp : p = word
        · subst hp
          simp only [if_true]
          by_cases hc : (ps.length : Int) < least ∨ most < (ps.length : Int)
          · rw [if_pos hc]
            exact take_count g M x r all last place least most p ps w h hx hc
          · rw [if_neg hc]
            have hb := (hne x (by simp)).2
            rw [hx] at hb
            refine (take_ok g M x r all last place least most p ps w h hx (by omega) (by omega) (by simp at hb; omega)).mono ?_
            rintro e w' ⟨v, h1, h2, h3, h4, h5⟩
            exact ⟨⟨v, h1, h2, h3⟩, h4, h5⟩
        · simp only [hp, if_false]
          exact take_magic g M x r all last place least most word p ps w h hx hp
  · simp only [he, if_false]
    refine (take_err g M ls all last err place least most word w h he).mono ?_
    rintro e w' ⟨rfl, rfl⟩
    exact ⟨rfl, h, grown_refl _ _⟩

/-- Book.Next. -/
theorem next_any (g M : Nat) (all : Int) (b : BS) (word : ByteArray) (w : World) (h : BK w g M b.ls all b.last b.err b.place) (hne : ∀ x ∈ b.ls, x.f1 ≠ []) :
    Calls Tryd.prog 30 #[.pointer (some ⟨g, 0, none⟩), .string word] w fun e w' => e = .returned (.bool (nx word b)) ∧ w' = w := by
  obtain ⟨ls, last, err, place⟩ := b
  unfold nx
  simp only at h hne ⊢
  have hgood := good_any g M ls all last err place w h
  by_cases he : err = 0
  · subst he
    simp only [if_true]
    cases ls with
    | nil =>
      obtain ⟨A, c, c0, c1, c2, c3, c4, hf, hlt, hc, hF⟩ := h.cells
      clear hF h hf
      go_enter Tryd.func30, Tryd.ntmps30
      go_wp2_with (first | (go_at_call 69; refine hgood.mono ?_; rintro e w' ⟨rfl, rfl⟩))
      go_ret
      exact ⟨rfl, rfl⟩
    | cons x r =>
      cases hx : x.f1 with
      | nil => exact absurd hx (hne x (by simp))
      | cons p ps =>
        obtain ⟨ad, c, a1, m1, c0, c1, c2, c3, c4, d0, d1, f0, l1, l2, l3, k1, k2, k3, k4, hF, hC, ng1, ng2⟩ := h.head p ps hx
        simp only [hx]
        have bl2 : (0 : Int) < (r.length : Int) + 1 := by omega
        have bl3 : (0 : Int) < (ps.length : Int) + 1 := by omega
        clear hF hC h hx hne
        go_enter Tryd.func30, Tryd.ntmps30
        go_wp2_with (first | (go_at_call 69; refine hgood.mono ?_; rintro e w' ⟨rfl, rfl⟩))
        go_ret
        exact ⟨rfl, rfl⟩
  · have b1 : (err == 0) = false := by simp [he]
    rw [if_neg he]
    clear he h hne
    go_enter Tryd.func30, Tryd.ntmps30
    go_wp2_with (first | (go_at_call 69; refine hgood.mono ?_; rintro e w' ⟨rfl, rfl⟩))
    go_ret
    exact ⟨rfl, rfl⟩
end Go.Proofs.YtbhbpopebmdemaaDoor
