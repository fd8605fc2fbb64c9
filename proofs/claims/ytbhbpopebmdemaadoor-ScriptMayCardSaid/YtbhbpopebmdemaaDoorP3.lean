import Derived.Test.YtbhbpopebmdemaaDoorP2
namespace Go.Proofs.YtbhbpopebmdemaaDoor
open Go.RowKit Go.Proofs.YtbhbpopebmdemaaDoorW.PrintWords Go.Proofs.YtbhbpopebmdemaaDoorW.PrintLast Go.Proofs.YtbhbpopebmdemaaDoorW.PrintMore
open ChiPure Go.Lib
set_option linter.unusedVariables false
set_option linter.unusedSimpArgs false

/-! ### what is parsed is right -/
theorem takeC_ok {last : Int} {st : Int × Int} {p : List ByteArray} (h : (takeSt last st p).1 = 0) : okC (takeC last st p) = true := by
  have h1 := take_n h 1 (by omega)
  have h2 := take_n h 2 (by omega)
  have h3 := take_n h 3 (by omega)
  have h4 := take_n h 4 (by omega)
  have h5 := take_n h 5 (by omega)
  simp only [okC, takeC, Bool.and_eq_true]
  exact ⟨decide_eq_true h1, decide_eq_true h2, decide_eq_true h3, decide_eq_true h4, decide_eq_true h5⟩

theorem pLoop_ok (all : Int) : ∀ (f : Nat) (b : BS) (out : List Ctl), out.all okC = true → out.length ≤ 16777216 → (pLoop all f b out).2.all okC = true ∧ (pLoop all f b out).2.length ≤ 16777216
  | 0, b, out, h1, h2 => ⟨h1, h2⟩
  | f + 1, b, out, h1, h2 => by
    unfold pLoop
    split
    · split
      · exact ⟨h1, h2⟩
      · rename_i p hp
        split
        · exact pLoop_ok all f _ out h1 h2
        · rename_i hbig
          split
          · rename_i hz
            have hn := take_n hz 0 (by omega)
            refine pLoop_ok all f _ _ ?_ ?_
            · rw [List.all_append, h1, Bool.true_and, List.all_eq_true]
              intro x hx
              rw [(List.mem_replicate.1 hx).2]
              exact takeC_ok hz
            · rw [List.length_append, List.length_replicate]
              have h0 : bLow 0 = 1 := rfl
              omega
          · exact pLoop_ok all f _ out h1 h2
    · exact ⟨h1, h2⟩

theorem parse_ok (s : ByteArray) : (parseR s).1.all okC = true ∧ (parseR s).1.length ≤ 16777216 := by
  unfold parseR
  simp only
  split
  · exact pLoop_ok _ _ _ [] rfl (by simp)
  · exact ⟨rfl, by simp⟩

/-! ### a place is never below 0 -/
def PosB (b : BS) : Prop := 0 ≤ b.last ∧ 0 ≤ b.place ∧ ∀ x ∈ b.ls, 0 ≤ x.f0
theorem failP_pos {e0 e p l : Int} (hp : 0 ≤ p) (hl : 0 ≤ l) : 0 ≤ failP e0 e p l := by
  unfold failP; split
  · exact hl
  · exact hp
theorem intStep_pos {last : Int} {st : Int × Int} {s : ByteArray} {lo hi : Int} (h : 0 ≤ last) (hp : 0 ≤ st.2) : 0 ≤ (intStep last st s lo hi).2.2 := by
  unfold intStep; split
  · exact failP_pos hp h
  · exact hp
theorem oneStep_pos {last : Int} {st : Int × Int} {zs : List ByteArray} {s : ByteArray} (h : 0 ≤ last) (hp : 0 ≤ st.2) : 0 ≤ (oneStep last st zs s).2.2 := by
  unfold oneStep; split
  · exact failP_pos hp h
  · exact hp
theorem intsSt_pos {last : Int} {st : Int × Int} {p : List ByteArray} (h : 0 ≤ last) (hp : 0 ≤ st.2) : ∀ k, 0 ≤ (intsSt last st p k).2
  | 0 => hp
  | k + 1 => intStep_pos h (intsSt_pos h hp k)
theorem takeSt_pos {last : Int} {st : Int × Int} {p : List ByteArray} (h : 0 ≤ last) (hp : 0 ≤ st.2) : 0 ≤ (takeSt last st p).2 := by
  unfold takeSt
  split
  · exact oneStep_pos h (oneStep_pos h (oneStep_pos h (intsSt_pos h hp 6)))
  · split
    · exact oneStep_pos h (intsSt_pos h hp 6)
    · exact intsSt_pos h hp 6
theorem tk_pos {all : Int} {word : ByteArray} {least most : Int} {b : BS} (ha : 0 ≤ all) (h : PosB b) : PosB (tk all word least most b).2 := by
  obtain ⟨ls, last, err, place⟩ := b
  obtain ⟨h1, h2, h3⟩ := h
  simp only at h1 h2 h3
  unfold tk
  by_cases he : err = 0
  · simp only [he, if_true]
    cases ls with
    | nil => exact ⟨h1, by show 0 ≤ all + 1; omega, h3⟩
    | cons y r =>
      have hy0 := h3 y (by simp)
      cases hy : y.f1 with
      | nil => simp only [hy]; exact ⟨h1, h2, h3⟩
      | cons p ps =>
        simp only [hy]
        split
        · split
          · exact ⟨h1, hy0, h3⟩
          · exact ⟨hy0, h2, fun x hx => h3 x (List.mem_cons_of_mem _ hx)⟩
        · exact ⟨h1, hy0, h3⟩
  · simp only [he, if_false]; exact ⟨h1, h2, h3⟩
theorem pLoop_pos (all : Int) (ha : 0 ≤ all) : ∀ (f : Nat) (b : BS) (out : List Ctl), PosB b → PosB (pLoop all f b out).1
  | 0, b, out, h => h
  | f + 1, b, out, h => by
    have ht := tk_pos (word := wDo) (least := 6) (most := 8) ha h
    obtain ⟨t1, t2, t3⟩ := ht
    unfold pLoop
    split
    · split
      · exact ⟨t1, t2, t3⟩
      · rename_i p hp
        have hs : 0 ≤ (takeSt (tk all wDo 6 8 b).2.last ((tk all wDo 6 8 b).2.err, (tk all wDo 6 8 b).2.place) p).2 := takeSt_pos t1 t2
        split
        · exact pLoop_pos all ha f _ out ⟨t1, failP_pos hs t1, t3⟩
        · split
          · exact pLoop_pos all ha f _ _ ⟨t1, hs, t3⟩
          · exact pLoop_pos all ha f _ out ⟨t1, hs, t3⟩
    · exact h
theorem bkTo_pos (L : List ByteArray) : ∀ k, ∀ x ∈ bkTo L k, 0 ≤ x.f0
  | 0, x, hx => by cases hx
  | k + 1, x, hx => by
    unfold bkTo at hx
    rw [List.mem_append] at hx
    rcases hx with hx | hx
    · exact bkTo_pos L k x hx
    · split at hx
      · cases hx
      · simp at hx
        subst hx
        show 0 ≤ (k : Int) + 1
        omega
theorem endR_pos {b : BS} (h : PosB b) : 0 ≤ (endR b).2 := by
  obtain ⟨ls, last, err, place⟩ := b
  obtain ⟨h1, h2, h3⟩ := h
  simp only at h1 h2 h3
  unfold endR
  cases ls with
  | nil => exact h2
  | cons y r => exact failP_pos h2 (h3 y (by simp))
theorem parse_err (s : ByteArray) (h : (parseR s).2.1 ≠ 0) : (parseR s).1 = [] ∧ 0 ≤ (parseR s).2.2 := by
  unfold parseR at h ⊢
  simp only at h ⊢
  split
  · rename_i he
    rw [if_pos he] at h
    exact absurd rfl h
  · refine ⟨rfl, ?_⟩
    have ha : (0 : Int) ≤ ((lns s).length : Int) := by omega
    exact endR_pos (tk_pos ha (pLoop_pos _ ha _ _ _ (tk_pos ha ⟨Int.le_refl _, Int.le_refl _, bkTo_pos _ _⟩)))
end Go.Proofs.YtbhbpopebmdemaaDoor
