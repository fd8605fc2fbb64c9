import Derived.Test.YtbhbpopebmdemaaDoorM1
import Derived.Test.YtbhbpopebmdemaaDoorWFoot
import Derived.Deep.Slices
import Derived.Deep.Fields
import Derived.ChangeSame
import Derived.ChangeArms
import Derived.Shelf.Vars
import Derived.Lay
namespace Go.Proofs.YtbhbpopebmdemaaDoor
open Go.RowKit Go.Proofs.YtbhbpopebmdemaaDoorW.PrintWords Go.Proofs.YtbhbpopebmdemaaDoorW.PrintLast Go.Proofs.YtbhbpopebmdemaaDoorW.PrintMore
open Go.ChangeShapes Go.WideShapes Go.Deep
set_option linter.unusedVariables false
set_option linter.unusedSimpArgs false
section
variable {H : Type} {enc : TypeId × Value → H} {P : Program} {w : World} {base : Nat} {spare : Nat → Bool} {held : Bool}
/-- A slice of structs whose fields are one cell each, opened (as the kit's page on structs has it). -/
theorem open_slice_fields {t e : TypeId} {fs : Array Field} {fuel : Nat} {cs : List Value} {x : DataW H × List MemPlace} (ht : P.underlying t = some (.slice e)) (he : P.underlying e = some (.struct fs))
    (hone : oneCellFields P fs = true) (hC : P.cellsOf e = fs.size) (h : DataW.trod enc P w base spare held fuel t cs = some x) :
    (cs = [.slice none 0 0] ∧ x = (.nil, [])) ∨
    ∃ (a : Addr) (len cap m : Nat) (D : Nat → DataW H) (Pl : Nat → List MemPlace), cs = [.slice (some a) len cap] ∧ base ≤ a.block ∧ len ≤ cap ∧ cap ≤ maxLen ∧ m = (if spare a.block then cap else len) ∧
      ∀ i, i < m → ∃ (ys : List (DataW H × List MemPlace)) (n : Nat),
        ∀ (j : Nat) (f : Field), fs[j]? = some f → ∃ (v : Value) (y : DataW H × List MemPlace), w.cell? (a.add (i * fs.size + j)) = some v ∧ DataW.trod enc P w base spare held n f.type [v] = some y := by
  rcases open_slice ht h with h0 | ⟨a, len, cap, m, n, D, Pl, hcs, hb, hl, hm, hmm, hx, hi⟩
  · exact .inl h0
  · refine .inr ⟨a, len, cap, m, D, Pl, hcs, hb, hl, hm, hmm, fun i him => ?_⟩
    obtain ⟨cs', hc, ht'⟩ := hi i him
    rw [hC] at hc
    obtain ⟨ys, n', hn', hy, hlen, hyl, hf⟩ := DataW.trod_struct he ht'
    obtain ⟨_, hcl, hat⟩ := World.cells?_some hc
    refine ⟨ys, n', fun j f hj => ?_⟩
    obtain ⟨ho, hk⟩ := hone_of hone j f hj
    have hjl : j < fs.size := (Array.getElem?_eq_some_iff.1 hj).1
    have hcell := hat j hjl
    have hv : cs'[j]? = some (cs'[j]'(by omega)) := List.getElem?_eq_getElem (by omega)
    have h1 := hf j f hj
    rw [ho, hk] at h1
    have hone' : (cs'.drop j).take 1 = [cs'[j]'(by omega)] := by
      rw [List.drop_eq_getElem_cons (by omega)]
      rfl
    rw [hone'] at h1
    have hys : ys[j]? = some (ys[j]'(by omega)) := List.getElem?_eq_getElem (by omega)
    refine ⟨_, _, ?_, h1.trans hys⟩
    rw [← Go.Deep.add_add, hcell, hv]
end

theorem heap35 : Kd.Heap PA.k35 := by
  unfold PA.k35
  exact Kd.heap_iso _ (Kd.heap_pair (Kd.heap_int _) (Kd.heap_pair (Kd.heap_int _) (Kd.heap_pair (Kd.heap_int _) (Kd.heap_pair (Kd.heap_int _) (Kd.heap_pair (Kd.heap_int _) (Kd.heap_pair Kd.heap_bool Kd.heap_bool))))))

theorem cells35 : Tryd.prog.cellsOf 35 = 7 := by kernel_rfl

/-- An argument of controls, opened. -/
theorem open_ctls {H : Type} {enc : TypeId × Value → H} {w : World} {base : Nat} {spare : Nat → Bool} {held : Bool} {fuel : Nat} {cs : List Value} {x : DataW H × List MemPlace} (h : DataW.trod enc Tryd.prog w base spare held fuel 23 cs = some x) :
    ∃ (A : Option Addr) (c : Nat) (xs : List Ctl), cs = [.slice A xs.length c] ∧ xs.length ≤ c ∧ c ≤ maxLen ∧ Kd.F PA.k35 w (fun k => k < w.heap.size) A xs.length xs := by
  rcases open_slice_fields Tryd.underlying23 Tryd.underlying35 (by kernel_rfl) cells35 h with ⟨hcs, _⟩ | ⟨a, len, cap, m, D, Pl, hcs, _, hl, hm, hmm, hi⟩
  · exact ⟨none, 0, [], hcs, Nat.le_refl _, Nat.zero_le _, Kd.F_nil _ _ _⟩
  · have hlm : len ≤ m := by rw [hmm]; split <;> omega
    have hel : ∀ i, i < len → ∃ y : Ctl, ∀ j u, (ctlC y)[j]? = some u → w.cell? (a.add (i * 7 + j)) = some u := by
      intro i hil
      obtain ⟨ys, n, hf⟩ := hi i (by omega)
      obtain ⟨v0, y0, c0, t0⟩ := hf 0 _ rfl
      obtain ⟨v1, y1, c1, t1⟩ := hf 1 _ rfl
      obtain ⟨v2, y2, c2, t2⟩ := hf 2 _ rfl
      obtain ⟨v3, y3, c3, t3⟩ := hf 3 _ rfl
      obtain ⟨v4, y4, c4, t4⟩ := hf 4 _ rfl
      obtain ⟨v5, y5, c5, t5⟩ := hf 5 _ rfl
      obtain ⟨v6, y6, c6, t6⟩ := hf 6 _ rfl
      obtain ⟨n0, e0, _⟩ := DataW.trod_int Tryd.underlying3 t0
      obtain ⟨n1, e1, _⟩ := DataW.trod_int Tryd.underlying3 t1
      obtain ⟨n2, e2, _⟩ := DataW.trod_int Tryd.underlying3 t2
      obtain ⟨n3, e3, _⟩ := DataW.trod_int Tryd.underlying3 t3
      obtain ⟨n4, e4, _⟩ := DataW.trod_int Tryd.underlying3 t4
      obtain ⟨b5, e5, _⟩ := DataW.trod_bool Tryd.underlying4 t5
      obtain ⟨b6, e6, _⟩ := DataW.trod_bool Tryd.underlying4 t6
      cases e0; cases e1; cases e2; cases e3; cases e4; cases e5; cases e6
      refine ⟨⟨n0, n1, n2, n3, n4, b5, b6⟩, fun j u hj => ?_⟩
      match j, hj with
      | 0, hj => cases hj; exact c0
      | 1, hj => cases hj; exact c1
      | 2, hj => cases hj; exact c2
      | 3, hj => cases hj; exact c3
      | 4, hj => cases hj; exact c4
      | 5, hj => cases hj; exact c5
      | 6, hj => cases hj; exact c6
      | j + 7, hj => simp [ctlC] at hj
    obtain ⟨xs, hxl, hxs⟩ : ∃ xs : List Ctl, xs.length = len ∧ ∀ i y, xs[i]? = some y → ∀ j u, (ctlC y)[j]? = some u → w.cell? (a.add (i * 7 + j)) = some u := by
      have : ∀ n, n ≤ len → ∃ xs : List Ctl, xs.length = n ∧ ∀ i y, xs[i]? = some y → ∀ j u, (ctlC y)[j]? = some u → w.cell? (a.add (i * 7 + j)) = some u := by
        intro n
        induction n with
        | zero => intro _; exact ⟨[], rfl, fun i y h => by cases h⟩
        | succ n ih =>
          intro hn
          obtain ⟨xs, h1, h2⟩ := ih (by omega)
          obtain ⟨y, hy⟩ := hel n (by omega)
          refine ⟨xs ++ [y], by simp [h1], fun i z hz => ?_⟩
          rcases Nat.lt_or_ge i n with hlt | hge
          · rw [List.getElem?_append_left (by omega)] at hz
            exact h2 i z hz
          · have hil : i < (xs ++ [y]).length := (List.getElem?_eq_some_iff.1 hz).1
            have : i = n := by simp at hil; omega
            subst this
            rw [List.getElem?_append_right (by omega), h1, Nat.sub_self] at hz
            cases hz
            exact hy
      exact this len (Nat.le_refl _)
    subst hxl
    refine ⟨some a, cap, xs, hcs, hl, hm, Kd.C_F heap35 ⟨rfl, by unfold maxLen at hm; omega, fun _ => ⟨a, rfl, fun j p hj => ⟨ctlC p, rfl, PA.k35_mk w p, hxs j p hj⟩⟩⟩⟩

/-- What a slice of controls weighs at most is not asked; the named library variable holds some number. -/
theorem someMax {w : World} (h : w.ShapedOpen Tryd.prog) : ∃ m, w.cell? ⟨2, 0, none⟩ = some (.int .i64 m) :=
  Go.Proofs.cell_of_shapedOpen_int (zero := #[.int .i64 0]) (t := 3) h (of_decide_eq_true (by kernel_rfl)) (by kernel_rfl) rfl (by kernel_rfl) (by kernel_rfl) Tryd.underlying3
end Go.Proofs.YtbhbpopebmdemaaDoor
