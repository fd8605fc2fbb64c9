import Derived.Test.YtbhbpopebmdemaaDoorM1
import Derived.Test.YtbhbpopebmdemaaDoorC1
namespace Go.Proofs.YtbhbpopebmdemaaDoor
open Go.RowKit Go.Proofs.YtbhbpopebmdemaaDoorW.PrintWords Go.Proofs.YtbhbpopebmdemaaDoorW.PrintLast Go.Proofs.YtbhbpopebmdemaaDoorW.PrintMore
open ChiPure Go.Lib
set_option linter.unusedVariables false
set_option linter.unusedSimpArgs false

/-! ### numbers come back -/
def byL (l : List Int) : List UInt8 := (strOfNums l).data.toList
theorem byL_cons (x : Int) (l : List Int) : byL (x :: l) = UInt8.ofNat x.toNat :: byL l := by simp [byL, strOfNums]
theorem byL_nil : byL [] = [] := rfl
theorem byL_len (l : List Int) : (byL l).length = l.length := by
  induction l with
  | nil => rfl
  | cons x l ih => rw [byL_cons]; simp [ih]

theorem numL_digit (d : Nat) (hd : d < 10) (l : List UInt8) (n : Nat) : numL (UInt8.ofNat (48 + d) :: l) n = numL l (10 * n + d) := by
  have h : d = 0 ∨ d = 1 ∨ d = 2 ∨ d = 3 ∨ d = 4 ∨ d = 5 ∨ d = 6 ∨ d = 7 ∨ d = 8 ∨ d = 9 := by omega
  rcases h with rfl | rfl | rfl | rfl | rfl | rfl | rfl | rfl | rfl | rfl <;> rfl

theorem dec_num : ∀ (f u : Nat) (acc : List Int), u < 10 ^ f → numL (byL (dec 1 f u acc)) 0 = numL (byL acc) u
  | 0, u, acc, h => by
    have : u = 0 := by simp at h; exact h
    subst this
    rfl
  | f + 1, u, acc, h => by
    unfold dec
    split
    · rw [dec_num f (u / 10) _ (by rw [Nat.pow_succ] at h; omega), byL_cons, Int.toNat_natCast, numL_digit _ (by omega)]
      congr 1
      omega
    · have : u = 0 := by omega
      subst this
      rfl
theorem dec_short : ∀ (f k u : Nat) (acc : List Int), u < 10 ^ k → 1 ≤ acc.length + k → (dec 1 f u acc).length ≤ acc.length + k
  | 0, k, u, acc, _, _ => by simp [dec]
  | f + 1, k, u, acc, h, h1 => by
    unfold dec
    split
    · rename_i hc
      obtain ⟨k1, rfl⟩ : ∃ k1, k = k1 + 1 := by
        refine ⟨k - 1, ?_⟩
        rcases Nat.eq_zero_or_pos k with h0 | h0
        · subst h0
          simp at h
          omega
        · omega
      have := dec_short f k1 (u / 10) (((48 + u % 10 : Nat) : Int) :: acc) (by rw [Nat.pow_succ] at h; omega) (by simp; omega)
      rw [List.length_cons] at this
      omega
    · omega
theorem dec_head : ∀ (f u : Nat) (acc : List Int), (∃ d r, acc = ((48 + d : Nat) : Int) :: r ∧ d < 10) ∨ (acc = [] ∧ 1 ≤ f) → ∃ d r, dec 1 f u acc = ((48 + d : Nat) : Int) :: r ∧ d < 10
  | 0, u, acc, h => by
    rcases h with ⟨d, r, h, hd⟩ | ⟨_, h⟩
    · exact ⟨d, r, h, hd⟩
    · omega
  | f + 1, u, acc, h => by
    unfold dec
    split
    · exact dec_head f _ _ (.inl ⟨u % 10, acc, rfl, by omega⟩)
    · rename_i hc
      rcases h with ⟨d, r, h, hd⟩ | ⟨h, _⟩
      · exact ⟨d, r, h, hd⟩
      · subst h
        simp at hc

theorem whole_data (n : Int) : (wholeS n).data.toList = (if n < 0 then [45] else []) ++ byL (dec 1 21 n.natAbs []) := by
  unfold wholeS signS byL
  by_cases h : n < 0
  · rw [if_pos h, if_pos h]; simp
  · rw [if_neg h, if_neg h]; simp
theorem numS_dec (u : Nat) (h : u < 10 ^ 18) : numS (byL (dec 1 21 u [])) 18 = ((u : Int), true) := by
  have h1 := dec_num 21 u [] (by omega)
  have h2 := dec_short 21 18 u [] h (by simp)
  obtain ⟨d, r, h3, hd⟩ := dec_head 21 u [] (.inr ⟨rfl, by omega⟩)
  have h4 := byL_len (dec 1 21 u [])
  unfold numS
  rw [if_neg]
  · rw [h1]; rfl
  · intro hc
    rcases hc with hc | hc
    · rw [h3, byL_cons] at hc; cases hc
    · simp at h2; omega
theorem dec_first (u : Nat) : ∃ d r, byL (dec 1 21 u []) = UInt8.ofNat (48 + d) :: r ∧ d < 10 := by
  obtain ⟨d, r, h3, hd⟩ := dec_head 21 u [] (.inr ⟨rfl, by omega⟩)
  exact ⟨d, byL r, by rw [h3, byL_cons, Int.toNat_natCast], hd⟩
theorem digit_clean (d : Nat) (hd : d < 10) : UInt8.ofNat (48 + d) ≠ 45 ∧ UInt8.ofNat (48 + d) ≠ 35 ∧ UInt8.ofNat (48 + d) ≠ 10 ∧ isSep (UInt8.ofNat (48 + d)) = false := by
  have h : d = 0 ∨ d = 1 ∨ d = 2 ∨ d = 3 ∨ d = 4 ∨ d = 5 ∨ d = 6 ∨ d = 7 ∨ d = 8 ∨ d = 9 := by omega
  rcases h with rfl | rfl | rfl | rfl | rfl | rfl | rfl | rfl | rfl | rfl <;> decide
theorem rdW_whole (n : Int) (h : n.natAbs < 10 ^ 18) : rdW (wholeS n).data.toList = (n, 0) := by
  rw [whole_data]
  have hs := numS_dec n.natAbs h
  unfold rdW
  by_cases hn : n < 0
  · rw [if_pos hn]
    simp only [List.cons_append, List.nil_append, List.head?_cons, List.tail_cons, if_true, hs]
    congr 1
    omega
  · rw [if_neg hn]
    obtain ⟨d, r, hd, hdl⟩ := dec_first n.natAbs
    rw [List.nil_append, if_neg]
    · simp only [hs, if_true]
      congr 1
      omega
    · rw [hd, List.head?_cons]
      intro he
      injection he with he
      exact (digit_clean d hdl).1 he

/-! ### words, lines -/
/-- bytes that part nothing. -/
def clean (w : List UInt8) : Prop := ∀ b ∈ w, b ≠ 35 ∧ b ≠ 10 ∧ isSep b = false
theorem clean.app {a b : List UInt8} (h : clean a) (k : clean b) : clean (a ++ b) := fun x hx => (List.mem_append.1 hx).elim (h x) (k x)
theorem clean_dec : ∀ (f u : Nat) (acc : List Int), clean (byL acc) → clean (byL (dec 1 f u acc))
  | 0, u, acc, h => h
  | f + 1, u, acc, h => by
    unfold dec
    split
    · refine clean_dec f _ _ ?_
      rw [byL_cons, Int.toNat_natCast]
      intro b hb
      rw [List.mem_cons] at hb
      rcases hb with rfl | hb
      · exact (digit_clean _ (by omega)).2
      · exact h b hb
    · exact h
theorem clean_whole (n : Int) : clean (wholeS n).data.toList := by
  rw [whole_data]
  refine clean.app ?_ (clean_dec _ _ _ (fun b hb => by cases hb))
  split
  · intro b hb; simp at hb; subst hb; decide
  · intro b hb; cases hb
theorem whole_ne (n : Int) : (wholeS n).data.toList ≠ [] := by
  rw [whole_data]
  obtain ⟨d, r, hd, _⟩ := dec_first n.natAbs
  rw [hd]
  simp

theorem pcl_word : ∀ (w acc rest : List UInt8), clean w → pcl acc (w ++ rest) = pcl (acc ++ w) rest
  | [], acc, rest, _ => by simp
  | b :: w, acc, rest, h => by
    have hb := h b (by simp)
    rw [List.cons_append]
    conv => lhs; unfold pcl
    rw [if_neg hb.1, hb.2.2]
    simp only [Bool.false_eq_true, if_false]
    rw [pcl_word w (acc ++ [b]) rest (fun x hx => h x (by simp [hx]))]
    simp
theorem pcl_words : ∀ (ws : List (List UInt8)) (acc : List UInt8), acc ≠ [] → (∀ w ∈ ws, w ≠ [] ∧ clean w) → pcl acc (ws.flatMap (fun w => 32 :: w)) = acc :: ws
  | [], acc, ha, _ => by
    simp [pcl, ha]
  | w :: ws, acc, ha, h => by
    have hw := h w (by simp)
    rw [List.flatMap_cons, List.cons_append]
    unfold pcl
    have hs : isSep 32 = true := rfl
    have hae : acc.isEmpty = false := by simp [ha]
    rw [if_neg (by decide), hs, hae]
    simp only [if_true, Bool.false_eq_true, if_false]
    rw [pcl_word w [] _ hw.2, List.nil_append, pcl_words ws w hw.1 (fun x hx => h x (by simp [hx]))]
theorem lnl_line : ∀ (w acc rest : List UInt8), (∀ b ∈ w, b ≠ 10) → lnl acc (w ++ 10 :: rest) = (acc ++ w) :: lnl [] rest
  | [], acc, rest, _ => by simp [lnl]
  | b :: w, acc, rest, h => by
    rw [List.cons_append]
    conv => lhs; unfold lnl
    rw [if_neg (h b (by simp)), lnl_line w (acc ++ [b]) rest (fun x hx => h x (by simp [hx]))]
    simp

/-! ### the book of a printed text -/
def wordsOf (p : Ctl × Nat) : List (List UInt8) := (fldL p).map (fun x => (wholeS x).data.toList) ++ ((if p.1.f5 then [[97, 117, 116, 111]] else []) ++ (if p.1.f6 then [[114, 101, 115, 101, 116]] else []))
def bodyL (p : Ctl × Nat) : List UInt8 := [100, 111] ++ (wordsOf p).flatMap (fun w => 32 :: w)
theorem lineB_body (p : Ctl × Nat) : lineB p = bodyL p ++ [10] := by
  have h5 : autoB p.1.f5 = (if p.1.f5 then [[97, 117, 116, 111]] else []).flatMap (fun w : List UInt8 => 32 :: w) := by
    unfold autoB; split <;> rfl
  have h6 : resetB p.1.f6 = (if p.1.f6 then [[114, 101, 115, 101, 116]] else []).flatMap (fun w : List UInt8 => 32 :: w) := by
    unfold resetB; split <;> rfl
  have hn : (fldL p).flatMap pcB = ((fldL p).map (fun x => (wholeS x).data.toList)).flatMap (fun w : List UInt8 => 32 :: w) := by
    rw [List.flatMap_map]; rfl
  unfold lineB bodyL wordsOf
  rw [h5, h6, hn, List.flatMap_append, List.flatMap_append]
  simp only [List.append_assoc]
theorem words_clean (p : Ctl × Nat) : ∀ w ∈ wordsOf p, w ≠ [] ∧ clean w := by
  intro w hw
  unfold wordsOf at hw
  rw [List.mem_append, List.mem_append] at hw
  rcases hw with hw | hw | hw
  · rw [List.mem_map] at hw
    obtain ⟨x, _, rfl⟩ := hw
    exact ⟨whole_ne x, clean_whole x⟩
  · split at hw
    · simp at hw; subst hw
      refine ⟨by simp, fun b hb => ?_⟩
      simp at hb
      rcases hb with rfl | rfl | rfl | rfl <;> decide
    · cases hw
  · split at hw
    · simp at hw; subst hw
      refine ⟨by simp, fun b hb => ?_⟩
      simp at hb
      rcases hb with rfl | rfl | rfl | rfl | rfl <;> decide
    · cases hw
theorem body_pcs (p : Ctl × Nat) : pcs (mkS (bodyL p)) = wDo :: (wordsOf p).map mkS := by
  unfold pcs
  rw [mkS_data]
  have : pcl [] (bodyL p) = [100, 111] :: wordsOf p := by
    unfold bodyL
    rw [pcl_word [100, 111] [] _ (fun b hb => by simp at hb; rcases hb with rfl | rfl <;> decide), List.nil_append]
    exact pcl_words _ _ (by simp) (words_clean p)
  rw [this]
  rfl
theorem clean_flat : ∀ ws : List (List UInt8), (∀ w ∈ ws, w ≠ [] ∧ clean w) → ∀ b ∈ ws.flatMap (fun w => 32 :: w), b ≠ 10
  | [], _, b, hb => by cases hb
  | w :: ws, h, b, hb => by
    rw [List.flatMap_cons, List.mem_append, List.mem_cons] at hb
    rcases hb with (rfl | hb) | hb
    · decide
    · exact ((h w (by simp)).2 b hb).2.1
    · exact clean_flat ws (fun x hx => h x (by simp [hx])) b hb
theorem body_nl (p : Ctl × Nat) : ∀ b ∈ bodyL p, b ≠ 10 := by
  intro b hb
  unfold bodyL at hb
  rw [List.mem_append] at hb
  rcases hb with hb | hb
  · simp at hb; rcases hb with rfl | rfl <;> decide
  · exact clean_flat _ (words_clean p) b hb
theorem lnl_lines : ∀ (ps : List (Ctl × Nat)) (rest : List UInt8), lnl [] (ps.flatMap lineB ++ rest) = ps.map bodyL ++ lnl [] rest
  | [], rest => rfl
  | p :: ps, rest => by
    rw [List.flatMap_cons, lineB_body, List.append_assoc, List.append_assoc, List.singleton_append, lnl_line _ _ _ (body_nl p), lnl_lines ps rest]
    simp
theorem print_lns (xs : List Ctl) : lns (mkS (printB xs)) = wScript :: ((runsL xs).map (fun p => mkS (bodyL p)) ++ [wEnd]) := by
  unfold lns
  rw [mkS_data]
  have : lnl [] (printB xs) = [115, 99, 114, 105, 112, 116] :: ((runsL xs).map bodyL ++ [[101, 110, 100]]) := by
    unfold printB headB
    rw [List.append_assoc, show ([115, 99, 114, 105, 112, 116, 10] : List UInt8) = [115, 99, 114, 105, 112, 116] ++ [10] from rfl, List.append_assoc, List.singleton_append, lnl_line _ _ _ (fun b hb => by simp at hb; rcases hb with rfl | rfl | rfl | rfl | rfl | rfl <;> decide), lnl_lines]
    rfl
  rw [this]
  simp [wScript, wEnd, mkS]

/-- lines with their numbers. -/
def numb : Int → List ByteArray → List S107
  | _, [] => []
  | no, s :: r => ⟨no, pcs s⟩ :: numb (no + 1) r
theorem numb_snoc : ∀ (L : List ByteArray) (no : Int) (s : ByteArray), numb no (L ++ [s]) = numb no L ++ [⟨no + L.length, pcs s⟩]
  | [], no, s => by simp [numb]
  | x :: L, no, s => by
    rw [List.cons_append, numb, numb_snoc L (no + 1) s, numb, List.cons_append, List.length_cons]
    congr 4
    omega
theorem bkTo_numb (L : List ByteArray) (h : ∀ s ∈ L, pcs s ≠ []) : ∀ k, k ≤ L.length → bkTo L k = numb 1 (L.take k)
  | 0, _ => rfl
  | k + 1, hk => by
    have hkl : k < L.length := by omega
    unfold bkTo
    rw [bkTo_numb L h k (by omega), List.take_add_one, List.getElem?_eq_getElem hkl, List.getD_eq_getElem?_getD, List.getElem?_eq_getElem hkl]
    simp only [Option.getD_some, Option.toList_some]
    rw [if_neg (h _ (List.getElem_mem hkl)), numb_snoc, List.length_take, Nat.min_eq_left (by omega)]
    congr 3
    omega
theorem print_book (xs : List Ctl) : bkTo (lns (mkS (printB xs))) (lns (mkS (printB xs))).length = numb 1 (wScript :: ((runsL xs).map (fun p => mkS (bodyL p)) ++ [wEnd])) := by
  rw [bkTo_numb _ _ _ (Nat.le_refl _), List.take_length, print_lns]
  rw [print_lns]
  intro s hs
  rw [List.mem_cons, List.mem_append, List.mem_map] at hs
  rcases hs with rfl | ⟨p, _, rfl⟩ | hs
  · decide
  · rw [body_pcs]; simp
  · simp at hs; subst hs; decide
end Go.Proofs.YtbhbpopebmdemaaDoor
