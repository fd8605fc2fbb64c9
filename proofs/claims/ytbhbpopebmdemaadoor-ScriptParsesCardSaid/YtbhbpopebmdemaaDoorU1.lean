import Derived.Lib.FieldsP
namespace ChiPure
open Go Go.Lib

def mkS (l : List UInt8) : ByteArray := ⟨l.toArray⟩

def isSep (c : UInt8) : Bool := c == 32 || c == 9
def sepR (r : Nat) : Bool := r == 32 || r == 9

/-- the pieces of a text without a comment: 'w' is the word so far. -/
def fld : List UInt8 → List UInt8 → List (List UInt8)
  | w, [] => if w.isEmpty then [] else [w]
  | w, c :: l => if isSep c then (if w.isEmpty then fld [] l else w :: fld [] l) else fld (w ++ [c]) l

theorem fld_nonsep (n : List UInt8) (h : ∀ c ∈ n, isSep c = false) : ∀ (w l : List UInt8), fld w (n ++ l) = fld (w ++ n) l := by
  induction n with
  | nil => intro w l; simp
  | cons c n ih =>
    intro w l
    have hc := h c (by simp)
    have := ih (fun c hc => h c (by simp [hc])) (w ++ [c]) l
    simp only [List.cons_append, fld, hc]
    simpa using this

theorem get!_eq (s : ByteArray) (i : Nat) (h : i < s.size) : s.get! i = s.data.toList[i]'(by simpa using h) := by
  unfold ByteArray.get!
  simp
  rw [Array.getElem!_eq_getD, Array.getD]
  have : i < s.data.size := h
  exact dif_pos this

theorem decode_ascii (s : ByteArray) (i : Nat) (h : (s.get! i).toNat < 128) : Utf8.decode s i = ((s.get! i).toNat, 1) := by
  unfold Utf8.decode
  simp [h]

/-- what stands at i when the byte is none of the ASCII ones: a rune that is no separator, over bytes that are none. -/
theorem decode_other (s : ByteArray) (i : Nat) (hi : i < s.size) (h : ¬ (s.get! i).toNat < 128) :
    sepR (Utf8.decode s i).1 = false ∧ 1 ≤ (Utf8.decode s i).2 ∧ i + (Utf8.decode s i).2 ≤ s.size ∧
      ∀ k, k < (Utf8.decode s i).2 → 128 ≤ (s.get! (i + k)).toNat := by
  have key : ∀ c n : Nat, (128 ≤ c) → 1 ≤ n → i + n ≤ s.size → (∀ k, k < n → 128 ≤ (s.get! (i + k)).toNat) → Utf8.decode s i = (c, n) →
      sepR (Utf8.decode s i).1 = false ∧ 1 ≤ (Utf8.decode s i).2 ∧ i + (Utf8.decode s i).2 ≤ s.size ∧ ∀ k, k < (Utf8.decode s i).2 → 128 ≤ (s.get! (i + k)).toNat := by
    intro c n hc hn hs hk he
    rw [he]
    refine ⟨?_, hn, hs, hk⟩
    unfold sepR
    have h1 : (c == 32) = false := by simp; omega
    have h2 : (c == 9) = false := by simp; omega
    simp [h1, h2]
  have hk0 : ∀ k, k < 1 → 128 ≤ (s.get! (i + k)).toNat := by
    intro k hk
    have : k = 0 := by omega
    subst this
    simp at h ⊢
    omega
  generalize hd : Utf8.decode s i = d at *
  unfold Utf8.decode at hd
  simp only [Nat.add_zero] at hd
  rw [if_neg (by simpa using h)] at hd
  have err : (Utf8.runeError, 1) = d → d = (Utf8.runeError, 1) := fun h => h.symm
  have e := fun (he : d = (Utf8.runeError, 1)) => key Utf8.runeError 1 (by decide) (by omega) (by omega) hk0 he
  split at hd
  · rename_i h2
    simp only [Bool.and_eq_true, decide_eq_true_eq, beq_iff_eq] at h2
    split at hd
    · rename_i h3
      refine key _ 2 (by simpa using h3) (by omega) (by omega) ?_ hd.symm
      intro k hk
      match k, hk with
      | 0, _ => exact hk0 0 (by omega)
      | 1, _ => omega
    · exact e hd.symm
  · split at hd
    · rename_i h2
      simp only [Bool.and_eq_true, decide_eq_true_eq, beq_iff_eq] at h2
      split at hd
      · rename_i h3
        simp only [ge_iff_le, Bool.and_eq_true, decide_eq_true_eq] at h3
        refine key _ 3 (by omega) (by omega) (by omega) ?_ hd.symm
        intro k hk
        match k, hk with
        | 0, _ => exact hk0 0 (by omega)
        | 1, _ => omega
        | 2, _ => omega
      · exact e hd.symm
    · split at hd
      · rename_i h2
        simp only [Bool.and_eq_true, decide_eq_true_eq, beq_iff_eq] at h2
        split at hd
        · rename_i h3
          simp only [ge_iff_le, Bool.and_eq_true, decide_eq_true_eq] at h3
          refine key _ 4 (by omega) (by omega) (by omega) ?_ hd.symm
          intro k hk
          match k, hk with
          | 0, _ => exact hk0 0 (by omega)
          | 1, _ => omega
          | 2, _ => omega
          | 3, _ => omega
        · exact e hd.symm
      · exact e hd.symm


theorem bytes_get (s : ByteArray) (i : Nat) (h : i < s.size) : (s.data.toList.drop i) = s.get! i :: s.data.toList.drop (i + 1) := by
  have hl : i < s.data.toList.length := by simpa using h
  rw [get!_eq s i h]
  exact List.drop_eq_getElem_cons hl

theorem drop_span (s : ByteArray) : ∀ (n i : Nat), i + n ≤ s.size → (∀ k, k < n → isSep (s.get! (i + k)) = false) →
    ∃ m : List UInt8, s.data.toList.drop i = m ++ s.data.toList.drop (i + n) ∧ m.length = n ∧ ∀ c ∈ m, isSep c = false := by
  intro n
  induction n with
  | zero => intro i _ _; exact ⟨[], by simp⟩
  | succ n ih =>
    intro i hi hk
    obtain ⟨m, hm, hl, hs⟩ := ih (i + 1) (by omega) (fun k hk' => by have := hk (k + 1) (by omega); rwa [show i + (k + 1) = i + 1 + k from by omega] at this)
    refine ⟨s.get! i :: m, ?_, by simp [hl], ?_⟩
    · rw [bytes_get s i (by omega), hm, show i + 1 + n = i + (n + 1) from by omega]; simp
    · intro c hc
      cases hc with
      | head => have := hk 0 (by omega); simpa using this
      | tail _ h => exact hs c h

theorem sep_ge {c : UInt8} (h : 128 ≤ c.toNat) : isSep c = false := by
  unfold isSep
  have h1 : (c == 32) = false := by
    rw [beq_eq_false_iff_ne]; rintro rfl; exact absurd h (by decide)
  have h2 : (c == 9) = false := by
    rw [beq_eq_false_iff_ne]; rintro rfl; exact absurd h (by decide)
  simp [h1, h2]

theorem sep_lt (c : UInt8) : sepR c.toNat = isSep c := by
  unfold sepR isSep
  congr 1
  · rw [Bool.eq_iff_iff]; simp [← UInt8.toNat_inj]
  · rw [Bool.eq_iff_iff]; simp [← UInt8.toNat_inj]

/-- the word that stands between st and pos. -/
def wordOf (s : ByteArray) (st : Option Nat) (pos : Nat) : List UInt8 :=
  match st with
  | none => []
  | some a => (s.data.toList.drop a).take (pos - a)

theorem extract_data' (s : ByteArray) (a b : Nat) : (s.extract a b) = mkS ((s.data.toList.drop a).take (b - a)) := by
  apply ByteArray.ext
  apply Array.ext'
  simp [mkS, ByteArray.data_extract, Array.toList_extract, List.extract]

theorem wordOf_grow (s : ByteArray) (st : Option Nat) (pos n : Nat) (m : List UInt8) (hp : pos ≤ s.size) (hst : ∀ a, st = some a → a < pos)
    (hm : s.data.toList.drop pos = m ++ s.data.toList.drop (pos + n)) (hl : m.length = n) :
    wordOf s (some (st.getD pos)) (pos + n) = wordOf s st pos ++ m := by
  cases st with
  | none =>
    simp [wordOf, hm, hl]
  | some a =>
    have := hst a rfl
    simp only [wordOf, Option.getD_some]
    have e : s.data.toList.drop a = (s.data.toList.drop a).take (pos - a) ++ s.data.toList.drop pos := by
      conv => lhs; rw [← List.take_append_drop (pos - a) (s.data.toList.drop a)]
      rw [List.drop_drop]
      rw [show a + (pos - a) = pos from by omega]
    have hle : ((s.data.toList.drop a).take (pos - a)).length = pos - a := by
      rw [List.length_take, List.length_drop, Array.length_toList]
      have : s.data.size = s.size := rfl
      omega
    generalize hW : (s.data.toList.drop a).take (pos - a) = W at *
    rw [e, hm, List.take_append, hle, List.take_of_length_le (by omega)]
    congr 1
    rw [show pos + n - a - (pos - a) = m.length from by omega]
    simp

theorem word_empty (s : ByteArray) (st : Option Nat) (pos : Nat) (hp : pos ≤ s.size) (hst : ∀ a, st = some a → a < pos) : (wordOf s st pos).isEmpty = st.isNone := by
  cases st with
  | none => rfl
  | some a =>
    have h1 := hst a rfl
    have hle : (wordOf s (some a) pos).length = pos - a := by
      unfold wordOf
      rw [List.length_take, List.length_drop, Array.length_toList]
      have : s.data.size = s.size := rfl
      omega
    rw [Bool.eq_iff_iff]
    simp only [List.isEmpty_iff, Option.isNone_some, Bool.false_eq_true, iff_false]
    intro h
    rw [h] at hle
    simp at hle
    omega

theorem spans_spec (s : ByteArray) : ∀ (f pos : Nat) (st : Option Nat) (acc : List (Nat × Nat)),
    s.size ≤ pos + f → pos ≤ s.size → (∀ a, st = some a → a < pos) →
    (closeSpans s (spansFromP sepR s f pos st acc)).map (fun x => s.extract x.1 x.2) =
      acc.map (fun x => s.extract x.1 x.2) ++ (fld (wordOf s st pos) (s.data.toList.drop pos)).map mkS := by
  have hend : ∀ (pos : Nat) (st : Option Nat) (acc : List (Nat × Nat)), pos = s.size → (∀ a, st = some a → a < pos) → (closeSpans s (acc, st)).map (fun x => s.extract x.1 x.2) =
      acc.map (fun x => s.extract x.1 x.2) ++ (fld (wordOf s st pos) (s.data.toList.drop pos)).map mkS := by
    intro pos st acc hp hst
    have hz : s.data.toList.drop pos = [] := by
      apply List.drop_of_length_le
      rw [Array.length_toList, hp]; exact Nat.le_refl _
    rw [hz]
    simp only [fld, word_empty s st pos (by omega) hst]
    cases st with
    | none => simp [closeSpans]
    | some a =>
      simp only [closeSpans, List.map_append, List.map_cons, List.map_nil, Option.isNone_some, Bool.false_eq_true, if_false]
      rw [extract_data', wordOf, hp]
  intro f
  induction f with
  | zero =>
    intro pos st acc hf hp hst
    exact hend pos st acc (by omega) hst
  | succ f ih =>
    intro pos st acc hf hp hst
    unfold spansFromP
    by_cases hlt : pos < s.size
    · rw [if_pos hlt]
      have key : ∀ n : Nat, 1 ≤ n → pos + n ≤ s.size → (∀ k, k < n → isSep (s.get! (pos + k)) = false) →
          (closeSpans s (spansFromP sepR s f (pos + n) (some (st.getD pos)) acc)).map (fun x => s.extract x.1 x.2) =
          acc.map (fun x => s.extract x.1 x.2) ++ (fld (wordOf s st pos) (s.data.toList.drop pos)).map mkS := by
        intro n hn hle hk
        obtain ⟨m, hm, hl, hs⟩ := drop_span s n pos hle hk
        rw [ih (pos + n) (some (st.getD pos)) acc (by omega) hle (by
          intro a ha
          cases st with
          | none => simp at ha; omega
          | some b => simp at ha; have := hst b rfl; omega)]
        rw [hm, fld_nonsep m hs, wordOf_grow s st pos n m hp hst hm hl]
      by_cases h8 : (s.get! pos).toNat < 128
      · rw [decode_ascii s pos h8]
        simp only [sep_lt]
        cases hs : isSep (s.get! pos) with
        | true =>
          simp only [if_true]
          have e : fld (wordOf s st pos) (s.data.toList.drop pos) = if st.isNone then fld [] (s.data.toList.drop (pos + 1)) else wordOf s st pos :: fld [] (s.data.toList.drop (pos + 1)) := by
            rw [bytes_get s pos hlt]
            simp only [fld, hs, if_true, word_empty s st pos hp hst]
          rw [e]
          cases st with
          | none =>
            simp only [Option.isNone_none, if_true]
            rw [ih (pos + 1) none acc (by omega) (by omega) (by intro a ha; cases ha)]
            rfl
          | some a =>
            simp only [Option.isNone_some, Bool.false_eq_true, if_false]
            rw [ih (pos + 1) none _ (by omega) (by omega) (by intro a ha; cases ha)]
            rw [List.map_append, List.map_cons, List.map_nil, List.map_cons, extract_data']
            simp [wordOf]
        | false =>
          simp only [Bool.false_eq_true, if_false]
          have := key 1 (by omega) (by omega) (fun k hk => by have : k = 0 := by omega
                                                              subst this; simpa using hs)
          cases st <;> exact this
      · obtain ⟨h1, h2, h3, h4⟩ := decode_other s pos hlt h8
        rw [h1]
        simp only [Bool.false_eq_true, if_false]
        have := key _ h2 h3 (fun k hk => sep_ge (h4 k hk))
        cases st <;> exact this
    · rw [if_neg hlt]
      exact hend pos st acc (by omega) hst

/-- strings.FieldsFunc at blanks and tabs. -/
theorem fields_spec (s : ByteArray) : goFieldsP sepR s = (fld [] s.data.toList).map mkS := by
  unfold goFieldsP spansOfP
  have := spans_spec s s.size 0 none [] (by omega) (by omega) (by intro a ha; cases ha)
  simpa [wordOf] using this
end ChiPure
