import Derived.Test.YtbhbpopebmdemaaDoorU1
import Derived.Lib.SplitLaws
namespace ChiPure
open Go Go.Lib

theorem mkS_data (l : List UInt8) : (mkS l).data.toList = l := rfl
theorem mkS_of (s : ByteArray) : mkS s.data.toList = s := rfl
theorem mkS_size' (l : List UInt8) : (mkS l).size = l.length := rfl
theorem data_len (s : ByteArray) : s.data.toList.length = s.size := by rw [Array.length_toList]; rfl

/-- a text, parted at a byte. -/
def spl (c : UInt8) : List UInt8 → List UInt8 → List (List UInt8)
  | w, [] => [w]
  | w, b :: l => if b = c then w :: spl c [] l else spl c (w ++ [b]) l

theorem index_cons_ne {b c : UInt8} {l : List UInt8} (h : b ≠ c) : index (b :: l) [c] = if index l [c] == -1 then -1 else index l [c] + 1 := by
  have hp : ([c] : List UInt8).isPrefixOf (b :: l) = false := by simp [List.isPrefixOf, Ne.symm h]
  rw [index, hp]; simp
theorem index_cons_eq (c : UInt8) (l : List UInt8) : index (c :: l) [c] = 0 := by
  rw [index]; simp [List.isPrefixOf]

theorem splitK_nil (c : UInt8) (k : Nat) : splitK [c] 0 k [] = [[]] := by
  cases k with
  | zero => rfl
  | succ k => simp [splitK, index]

/-- the first piece takes what stands ahead of it. -/
def headOn (w : List UInt8) : List (List UInt8) → List (List UInt8)
  | [] => [w]
  | x :: r => (w ++ x) :: r

theorem spl_head (c : UInt8) : ∀ (l w : List UInt8), spl c w l = headOn w (spl c [] l)
  | [], w => by simp [spl, headOn]
  | b :: l, w => by
    by_cases h : b = c
    · simp [spl, h, headOn]
    · simp only [spl, h, if_false]
      rw [spl_head c l (w ++ [b]), spl_head c l ([] ++ [b])]
      cases spl c [] l <;> simp [headOn]

theorem splitK_spec (c : UInt8) : ∀ (l : List UInt8), splitK [c] 0 (count l [c]) l = spl c [] l
  | [] => by rw [splitK_nil]; rfl
  | b :: l => by
    by_cases h : b = c
    · subst h
      rw [count_cons_eq, show 1 + count l [b] = count l [b] + 1 from by omega]
      simp only [splitK, index_cons_eq]
      have := splitK_spec b l
      simp [spl, this]
    · rw [count_cons_ne b c l h]
      have ih := splitK_spec c l
      simp only [spl, h, if_false]
      rw [spl_head, ← ih]
      cases hk : count l [c] with
      | zero =>
        simp [splitK, headOn]
      | succ k =>
        have hm : index l [c] ≠ -1 := by
          intro hm
          rw [count_miss hm] at hk
          omega
        have hge := index_ge l [c]
        obtain ⟨j, hj⟩ : ∃ j : Nat, index l [c] = j := ⟨(index l [c]).toNat, by omega⟩
        simp only [splitK]
        rw [index_cons_ne h, hj]
        have h1 : ((j : Int) == -1) = false := by rw [beq_eq_false_iff_ne]; omega
        have h2 : ((j : Int) + 1 == -1) = false := by rw [beq_eq_false_iff_ne]; omega
        simp only [h1, h2, Bool.false_eq_true, if_false]
        have h3 : ((j : Int) + 1).toNat = j + 1 := by omega
        rw [h3]
        simp [headOn]

theorem map_data_inj : ∀ {xs : List ByteArray} {ys : List (List UInt8)}, xs.map (fun b => b.data.toList) = ys → xs = ys.map mkS
  | [], ys, h => by simp at h; subst h; rfl
  | x :: xs, ys, h => by
    cases ys with
    | nil => simp at h
    | cons y ys =>
      simp only [List.map_cons, List.cons.injEq] at h
      rw [map_data_inj h.2, ← h.1]
      rfl

theorem splitB_spec (c : UInt8) (s : ByteArray) : splitB ⟨#[c]⟩ 0 (countB s ⟨#[c]⟩) s = (spl c [] s.data.toList).map mkS := by
  apply map_data_inj
  rw [splitB_data]
  exact splitK_spec c _

/-- a text's lines: an empty part at the end is left out. -/
def lnl : List UInt8 → List UInt8 → List (List UInt8)
  | w, [] => if w.isEmpty then [] else [w]
  | w, b :: l => if b = 10 then w :: lnl [] l else lnl (w ++ [b]) l

theorem lnl_spl_nl : ∀ (l w : List UInt8), lnl w (l ++ [10]) = spl 10 w l
  | [], w => by simp [lnl, spl]
  | b :: l, w => by
    by_cases h : b = 10
    · subst h; simp [lnl, spl, lnl_spl_nl l]
    · simp [lnl, spl, h, lnl_spl_nl l]
theorem lnl_spl : ∀ (l w : List UInt8) (z : UInt8), z ≠ 10 → lnl w (l ++ [z]) = spl 10 w (l ++ [z])
  | [], w, z, hz => by simp [lnl, spl, hz]
  | b :: l, w, z, hz => by
    by_cases h : b = 10
    · subst h; simp [lnl, spl, lnl_spl l _ z hz]
    · simp [lnl, spl, h, lnl_spl l _ z hz]

theorem lines_list (l : List UInt8) (h : l ≠ []) : spl 10 [] (trimSuffix l [10]) = lnl [] l := by
  obtain ⟨r, z, rfl⟩ : ∃ r z, l = r ++ [z] := ⟨l.dropLast, l.getLast h, (List.dropLast_concat_getLast h).symm⟩
  unfold trimSuffix hasSuffix
  by_cases hz : z = 10
  · subst hz
    have : ([10] : List UInt8).isSuffixOf (r ++ [10]) = true := by simp
    rw [if_pos this, lnl_spl_nl]
    simp
  · have : ([10] : List UInt8).isSuffixOf (r ++ [z]) = false := by
      rw [Bool.eq_false_iff]
      intro hs
      rw [List.isSuffixOf_iff_suffix] at hs
      obtain ⟨t, ht⟩ := hs
      have := List.append_inj_right' ht rfl
      simp at this
      exact hz this.symm
    rw [if_neg (by simp [this]), lnl_spl r [] z hz]

/-- what stands ahead of the first '#'. -/
theorem cut_hash (l : List UInt8) : (cut l [35]).1 = l.takeWhile (fun b => b != 35) := by
  unfold cut
  induction l with
  | nil => simp [index]
  | cons b l ih =>
    by_cases h : b = 35
    · subst h
      rw [index_cons_eq]
      simp
    · rw [index_cons_ne h]
      have hge := index_ge l [35]
      by_cases hm : index l [35] = -1
      · rw [hm] at ih ⊢
        simp at ih ⊢
        simp [h, ← ih]
      · obtain ⟨j, hj⟩ : ∃ j : Nat, index l [35] = j := ⟨(index l [35]).toNat, by omega⟩
        have h1 : ((j : Int) == -1) = false := by rw [beq_eq_false_iff_ne]; omega
        rw [hj] at ih ⊢
        simp only [h1, Bool.false_eq_true, if_false]
        rw [if_pos (by omega)] at ih ⊢
        have h3 : ((j : Int) + 1).toNat = j + 1 := by omega
        rw [h3]
        simp [h, ← ih]

/-- a line's pieces, byte by byte. -/
def pcl : List UInt8 → List UInt8 → List (List UInt8)
  | w, [] => if w.isEmpty then [] else [w]
  | w, c :: l => if c = 35 then (if w.isEmpty then [] else [w]) else if isSep c then (if w.isEmpty then pcl [] l else w :: pcl [] l) else pcl (w ++ [c]) l

theorem fld_pcl : ∀ (l w : List UInt8), fld w (l.takeWhile (fun b => b != 35)) = pcl w l
  | [], w => by simp [fld, pcl]
  | c :: l, w => by
    by_cases h : c = 35
    · subst h; simp [fld, pcl]
    · have : (c != 35) = true := by simp [h]
      rw [List.takeWhile_cons, this]
      simp only [if_true, fld, pcl, h, if_false, fld_pcl l]

end ChiPure
