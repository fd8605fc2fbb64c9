import Derived.Test.YtbhbpopebmdemaaDoorP1
namespace Go.Proofs.YtbhbpopebmdemaaDoor
open Go.RowKit Go.Proofs.YtbhbpopebmdemaaDoorW.PrintWords Go.Proofs.YtbhbpopebmdemaaDoorW.PrintLast Go.Proofs.YtbhbpopebmdemaaDoorW.PrintMore
open ChiPure Go.Lib
set_option linter.unusedVariables false
set_option linter.unusedSimpArgs false

def wordsS (p : Ctl × Nat) : List ByteArray := (wordsOf p).map mkS
theorem wordsS_eq (p : Ctl × Nat) : wordsS p = [wholeS (p.2 : Int), wholeS p.1.f0, wholeS p.1.f1, wholeS p.1.f2, wholeS p.1.f3, wholeS p.1.f4] ++ ((if p.1.f5 then [wAuto] else []) ++ (if p.1.f6 then [wReset] else [])) := by
  unfold wordsS wordsOf
  rw [List.map_append, List.map_append, List.map_map]
  congr 1
  congr 1
  · split <;> rfl
  · split <;> rfl
theorem intR_whole (n lo hi : Int) (h1 : lo ≤ n) (h2 : n ≤ hi) (h3 : n.natAbs < 10 ^ 18) : intR (wholeS n) lo hi = (n, 0) := by
  unfold intR
  rw [rdW_whole n h3, if_neg]
  simp
  omega
theorem intStep_whole (last : Int) (st : Int × Int) (n lo hi : Int) (h0 : st.1 = 0) (h1 : lo ≤ n) (h2 : n ≤ hi) (h3 : n.natAbs < 10 ^ 18) : intStep last st (wholeS n) lo hi = (n, st) := by
  obtain ⟨e, p⟩ := st
  simp only at h0
  subst h0
  unfold intStep
  rw [intR_whole n lo hi h1 h2 h3]
  simp [failE, failP]

/-- a run that may be. -/
def okR (p : Ctl × Nat) : Prop := okC p.1 = true ∧ 1 ≤ p.2 ∧ p.2 ≤ 16777216
theorem okR.fields {p : Ctl × Nat} (h : okR p) : (0 ≤ p.1.f0 ∧ p.1.f0 ≤ 255) ∧ (0 ≤ p.1.f1 ∧ p.1.f1 ≤ 255) ∧ (0 ≤ p.1.f2 ∧ p.1.f2 ≤ 255) ∧ (-127 ≤ p.1.f3 ∧ p.1.f3 ≤ 127) ∧ (-1 ≤ p.1.f4 ∧ p.1.f4 ≤ 8) := by
  have := h.1
  simp only [okC, Bool.and_eq_true, decide_eq_true_eq] at this
  exact this
theorem ints_words (last : Int) (pl : Int) (p : Ctl × Nat) (h : okR p) (r : List ByteArray) :
    (∀ k, k ≤ 6 → intsSt last (0, pl) ([wholeS (p.2 : Int), wholeS p.1.f0, wholeS p.1.f1, wholeS p.1.f2, wholeS p.1.f3, wholeS p.1.f4] ++ r) k = (0, pl)) ∧
    (∀ k, k < 6 → intsN last (0, pl) ([wholeS (p.2 : Int), wholeS p.1.f0, wholeS p.1.f1, wholeS p.1.f2, wholeS p.1.f3, wholeS p.1.f4] ++ r) k = ([(p.2 : Int), p.1.f0, p.1.f1, p.1.f2, p.1.f3, p.1.f4] : List Int).getD k 0) := by
  obtain ⟨h0, h1, h2, h3, h4⟩ := h.fields
  obtain ⟨_, hn1, hn2⟩ := h
  have step : ∀ k, k < 6 → ∀ st : Int × Int, st.1 = 0 → intStep last st (([wholeS (p.2 : Int), wholeS p.1.f0, wholeS p.1.f1, wholeS p.1.f2, wholeS p.1.f3, wholeS p.1.f4] ++ r).getD k ByteArray.empty) (bLow k) (bHigh k) = (([(p.2 : Int), p.1.f0, p.1.f1, p.1.f2, p.1.f3, p.1.f4] : List Int).getD k 0, st) := by
    intro k hk st hst
    have hc : k = 0 ∨ k = 1 ∨ k = 2 ∨ k = 3 ∨ k = 4 ∨ k = 5 := by omega
    rcases hc with rfl | rfl | rfl | rfl | rfl | rfl
    · exact intStep_whole last st _ _ _ hst (by show (1 : Int) ≤ _; omega) (by show _ ≤ (16777216 : Int); omega) (by omega)
    · exact intStep_whole last st _ _ _ hst h0.1 h0.2 (by omega)
    · exact intStep_whole last st _ _ _ hst h1.1 h1.2 (by omega)
    · exact intStep_whole last st _ _ _ hst h2.1 h2.2 (by omega)
    · exact intStep_whole last st _ _ _ hst h3.1 h3.2 (by omega)
    · exact intStep_whole last st _ _ _ hst h4.1 h4.2 (by omega)
  have hst : ∀ k, k ≤ 6 → intsSt last (0, pl) ([wholeS (p.2 : Int), wholeS p.1.f0, wholeS p.1.f1, wholeS p.1.f2, wholeS p.1.f3, wholeS p.1.f4] ++ r) k = (0, pl) := by
    intro k
    induction k with
    | zero => intro _; rfl
    | succ k ih =>
      intro hk
      unfold intsSt
      rw [ih (by omega), step k (by omega) _ rfl]
  refine ⟨hst, fun k hk => ?_⟩
  unfold intsN
  rw [hst k (by omega), step k hk _ rfl]

theorem one_ar_a : oneR [wAuto, wReset] wAuto = (0, 0) := by decide
theorem one_ar_r : oneR [wAuto, wReset] wReset = (1, 0) := by decide
theorem one_a : oneR [wAuto] wAuto = (0, 0) := by decide
theorem one_r : oneR [wReset] wReset = (0, 0) := by decide
theorem oneStep_ok (last pl : Int) (zs : List ByteArray) (x : ByteArray) (i : Int) (h : oneR zs x = (i, 0)) : oneStep last (0, pl) zs x = (i, 0, pl) := by
  unfold oneStep
  rw [h]
  simp [failE, failP]

theorem take_words (last pl : Int) (p : Ctl × Nat) (h : okR p) :
    takeSt last (0, pl) (wordsS p) = (0, pl) ∧ takeC last (0, pl) (wordsS p) = p.1 ∧ intsN last (0, pl) (wordsS p) 0 = (p.2 : Int) := by
  rw [wordsS_eq]
  obtain ⟨hst, hn⟩ := ints_words last pl p h ((if p.1.f5 then [wAuto] else []) ++ (if p.1.f6 then [wReset] else []))
  have h6 := hst 6 (Nat.le_refl _)
  have hA : takeSt last (0, pl) ([wholeS (p.2 : Int), wholeS p.1.f0, wholeS p.1.f1, wholeS p.1.f2, wholeS p.1.f3, wholeS p.1.f4] ++ ((if p.1.f5 then [wAuto] else []) ++ (if p.1.f6 then [wReset] else []))) = (0, pl) ∧
      takeAuto last (0, pl) ([wholeS (p.2 : Int), wholeS p.1.f0, wholeS p.1.f1, wholeS p.1.f2, wholeS p.1.f3, wholeS p.1.f4] ++ ((if p.1.f5 then [wAuto] else []) ++ (if p.1.f6 then [wReset] else []))) = p.1.f5 ∧
      takeReset last (0, pl) ([wholeS (p.2 : Int), wholeS p.1.f0, wholeS p.1.f1, wholeS p.1.f2, wholeS p.1.f3, wholeS p.1.f4] ++ ((if p.1.f5 then [wAuto] else []) ++ (if p.1.f6 then [wReset] else []))) = p.1.f6 := by
    clear hn hst
    revert h6
    cases p.1.f5 <;> cases p.1.f6
    · intro h6
      exact ⟨h6, rfl, rfl⟩
    · intro h6
      have e7 : ([wholeS (p.2 : Int), wholeS p.1.f0, wholeS p.1.f1, wholeS p.1.f2, wholeS p.1.f3, wholeS p.1.f4] ++ ((if false = true then [wAuto] else []) ++ (if true = true then [wReset] else []))).getD 6 ByteArray.empty = wReset := rfl
      obtain ⟨t1, t2, t3⟩ := take_7 last (0, pl) ([wholeS (p.2 : Int), wholeS p.1.f0, wholeS p.1.f1, wholeS p.1.f2, wholeS p.1.f3, wholeS p.1.f4] ++ ((if false = true then [wAuto] else []) ++ (if true = true then [wReset] else []))) rfl
      rw [t1, t2, t3, e7, h6, oneStep_ok _ _ _ _ _ one_ar_r]
      exact ⟨rfl, rfl, rfl⟩
    · intro h6
      have e7 : ([wholeS (p.2 : Int), wholeS p.1.f0, wholeS p.1.f1, wholeS p.1.f2, wholeS p.1.f3, wholeS p.1.f4] ++ ((if true = true then [wAuto] else []) ++ (if false = true then [wReset] else []))).getD 6 ByteArray.empty = wAuto := rfl
      obtain ⟨t1, t2, t3⟩ := take_7 last (0, pl) ([wholeS (p.2 : Int), wholeS p.1.f0, wholeS p.1.f1, wholeS p.1.f2, wholeS p.1.f3, wholeS p.1.f4] ++ ((if true = true then [wAuto] else []) ++ (if false = true then [wReset] else []))) rfl
      rw [t1, t2, t3, e7, h6, oneStep_ok _ _ _ _ _ one_ar_a]
      exact ⟨rfl, rfl, rfl⟩
    · intro h6
      have e7 : ([wholeS (p.2 : Int), wholeS p.1.f0, wholeS p.1.f1, wholeS p.1.f2, wholeS p.1.f3, wholeS p.1.f4] ++ ((if true = true then [wAuto] else []) ++ (if true = true then [wReset] else []))).getD 6 ByteArray.empty = wAuto := rfl
      have e8 : ([wholeS (p.2 : Int), wholeS p.1.f0, wholeS p.1.f1, wholeS p.1.f2, wholeS p.1.f3, wholeS p.1.f4] ++ ((if true = true then [wAuto] else []) ++ (if true = true then [wReset] else []))).getD 7 ByteArray.empty = wReset := rfl
      obtain ⟨t1, t2, t3⟩ := take_8 last (0, pl) ([wholeS (p.2 : Int), wholeS p.1.f0, wholeS p.1.f1, wholeS p.1.f2, wholeS p.1.f3, wholeS p.1.f4] ++ ((if true = true then [wAuto] else []) ++ (if true = true then [wReset] else []))) rfl
      rw [t1, t2, t3, e7, e8, h6, oneStep_ok _ _ _ _ _ one_ar_a, oneStep_ok _ _ _ _ _ one_a, oneStep_ok _ _ _ _ _ one_r]
      exact ⟨rfl, rfl, rfl⟩
  refine ⟨hA.1, ?_, hn 0 (by omega)⟩
  unfold takeC
  rw [hn 1 (by omega), hn 2 (by omega), hn 3 (by omega), hn 4 (by omega), hn 5 (by omega), hA.2.1, hA.2.2]
  rfl

theorem words_len (p : Ctl × Nat) : 6 ≤ (wordsS p).length ∧ (wordsS p).length ≤ 8 := by
  rw [wordsS_eq]
  cases p.1.f5 <;> cases p.1.f6 <;> simp
theorem tk_body (all no last pl : Int) (p : Ctl × Nat) (r : List S107) : tk all wDo 6 8 ⟨⟨no, pcs (mkS (bodyL p))⟩ :: r, last, 0, pl⟩ = (some (wordsS p), ⟨r, no, 0, pl⟩) := by
  obtain ⟨h1, h2⟩ := words_len p
  unfold tk
  simp only [if_true]
  rw [body_pcs]
  show (if wDo = wDo then _ else _) = _
  rw [if_pos rfl, if_neg]
  · rfl
  · show ¬ (((wordsS p).length : Int) < 6 ∨ 8 < ((wordsS p).length : Int))
    omega
theorem nx_body (no last pl : Int) (p : Ctl × Nat) (r : List S107) : nx wDo ⟨⟨no, pcs (mkS (bodyL p))⟩ :: r, last, 0, pl⟩ = true := by
  unfold nx
  simp only [if_true]
  rw [body_pcs]
  exact beq_self_eq_true _

theorem pcs_end : pcs wEnd = [wEnd] := by kernel_rfl
theorem nx_end (no last pl : Int) : nx wDo ⟨numb no [wEnd], last, 0, pl⟩ = false := by
  show nx wDo ⟨[⟨no, pcs wEnd⟩], last, 0, pl⟩ = false
  unfold nx
  simp only [if_true]
  rw [pcs_end]
  show (wEnd.toList == wDo.toList) = false
  kernel_rfl

/-- what runs tell. -/
def told (ps : List (Ctl × Nat)) : List Ctl := ps.flatMap fun p => List.replicate p.2 p.1
theorem told_cons (p : Ctl × Nat) (ps : List (Ctl × Nat)) : told (p :: ps) = List.replicate p.2 p.1 ++ told ps := by simp [told]

theorem loop_print (all pl : Int) : ∀ (ps : List (Ctl × Nat)) (no last : Int) (out : List Ctl) (f : Nat), (∀ p ∈ ps, okR p) → out.length + (told ps).length ≤ 16777216 → ps.length < f →
    ∃ last' no', pLoop all f ⟨numb no (ps.map (fun p => mkS (bodyL p)) ++ [wEnd]), last, 0, pl⟩ out = (⟨numb no' [wEnd], last', 0, pl⟩, out ++ told ps)
  | [], no, last, out, f, _, _, hf => by
    obtain ⟨f1, rfl⟩ : ∃ f1, f = f1 + 1 := ⟨f - 1, by simp at hf; omega⟩
    refine ⟨last, no, ?_⟩
    have hn : nx wDo ⟨numb no [wEnd], last, 0, pl⟩ = false := nx_end no last pl
    simp only [List.map_nil, List.nil_append, pLoop, hn, told, List.flatMap_nil, List.append_nil]
    rfl
  | p :: ps, no, last, out, f, h, hlen, hf => by
    obtain ⟨f1, rfl⟩ : ∃ f1, f = f1 + 1 := ⟨f - 1, by simp at hf; omega⟩
    have hp := h p (by simp)
    rw [told_cons, List.length_append, List.length_replicate] at hlen
    obtain ⟨last', no', ih⟩ := loop_print all pl ps (no + 1) no (out ++ List.replicate p.2 p.1) f1 (fun x hx => h x (by simp [hx])) (by rw [List.length_append, List.length_replicate]; omega) (by simp at hf; omega)
    refine ⟨last', no', ?_⟩
    obtain ⟨t1, t2, t3⟩ := take_words no pl p hp
    have hb : numb no ((p :: ps).map (fun p => mkS (bodyL p)) ++ [wEnd]) = ⟨no, pcs (mkS (bodyL p))⟩ :: numb (no + 1) (ps.map (fun p => mkS (bodyL p)) ++ [wEnd]) := rfl
    rw [hb]
    unfold pLoop
    rw [nx_body, if_pos rfl, tk_body]
    simp only [t1, t2, t3]
    rw [if_neg (by omega)]
    simp only [if_true, Int.toNat_natCast]
    rw [ih, told_cons, List.append_assoc]

theorem lead_get' (y : Ctl) : ∀ (xs : List Ctl) (j : Nat), j < lead y xs → xs[j]? = some y
  | [], j, h => by simp [lead] at h
  | x :: xs, j, h => by
    unfold lead at h
    split at h
    · rename_i hx
      cases j with
      | zero => rw [(eqC_iff x y).1 hx]; rfl
      | succ j => rw [List.getElem?_cons_succ]; exact lead_get' y xs j (by omega)
    · omega
theorem told_runs : ∀ (f : Nat) (xs : List Ctl), xs.length ≤ f → told (runsF f xs) = xs
  | 0, [], _ => rfl
  | 0, x :: xs, h => by simp at h
  | f + 1, [], _ => rfl
  | f + 1, x :: xs, h => by
    have hk := lead_pos x xs
    have hle := lead_le x (x :: xs)
    unfold runsF
    rw [told_cons, told_runs f _ (by rw [List.length_drop, List.length_cons]; simp at h; omega)]
    have : List.replicate (lead x (x :: xs)) x = (x :: xs).take (lead x (x :: xs)) := by
      apply List.ext_getElem?
      intro i
      rw [List.getElem?_take, List.getElem?_replicate]
      split
      · rename_i hi
        rw [lead_get' x _ i hi]
      · rfl
    show List.replicate (lead x (x :: xs)) x ++ _ = _
    rw [this, List.take_append_drop]

theorem numb_len : ∀ (L : List ByteArray) (no : Int), (numb no L).length = L.length
  | [], _ => rfl
  | s :: r, no => by rw [numb, List.length_cons, numb_len r, List.length_cons]
theorem pcs_script : pcs wScript = [wScript] := by kernel_rfl
theorem tk_script (all no : Int) (r : List S107) : tk all wScript 0 0 ⟨⟨no, pcs wScript⟩ :: r, 0, 0, 0⟩ = (some [], ⟨r, no, 0, 0⟩) := by
  unfold tk
  simp only [if_true]
  rw [pcs_script]
  show (if wScript = wScript then _ else _) = _
  rw [if_pos rfl, if_neg (by simp)]
theorem tk_end (all no last pl : Int) : tk all wEnd 0 0 ⟨numb no [wEnd], last, 0, pl⟩ = (some [], ⟨[], no, 0, pl⟩) := by
  show tk all wEnd 0 0 ⟨[⟨no, pcs wEnd⟩], last, 0, pl⟩ = _
  unfold tk
  simp only [if_true]
  rw [pcs_end]
  show (if wEnd = wEnd then _ else _) = _
  rw [if_pos rfl, if_neg (by simp)]

theorem runsF_pos : ∀ (f : Nat) (xs : List Ctl) (p : Ctl × Nat), p ∈ runsF f xs → 1 ≤ p.2
  | 0, _, p, h => by cases h
  | _ + 1, [], p, h => by cases h
  | f + 1, x :: xs, p, h => by
    unfold runsF at h
    rw [List.mem_cons] at h
    rcases h with rfl | h
    · exact lead_pos x xs
    · exact runsF_pos f _ p h

/-- CONTROLS COME BACK FROM THEIR TEXT. -/
theorem parse_print (xs : List Ctl) (hok : xs.all okC = true) (hlen : xs.length ≤ 16777216) : parseR (mkS (printB xs)) = (xs, 0, 0) := by
  have htold : told (runsL xs) = xs := told_runs _ xs (Nat.le_refl _)
  have hR : ∀ p ∈ runsL xs, okR p := fun p hp => by
    obtain ⟨h1, h2⟩ := runsL_mem hp
    rw [List.all_eq_true] at hok
    exact ⟨hok _ h1, runsF_pos _ xs p hp, by omega⟩
  unfold parseR
  simp only []
  rw [print_book]
  generalize ((lns (mkS (printB xs))).length : Int) = all
  have hb : numb 1 (wScript :: ((runsL xs).map (fun p => mkS (bodyL p)) ++ [wEnd])) = ⟨1, pcs wScript⟩ :: numb (1 + 1) ((runsL xs).map (fun p => mkS (bodyL p)) ++ [wEnd]) := rfl
  rw [hb, tk_script]
  simp only []
  obtain ⟨last', no', hl⟩ := loop_print all 0 (runsL xs) (1 + 1) 1 [] (numb (1 + 1) ((runsL xs).map (fun p => mkS (bodyL p)) ++ [wEnd])).length hR (by rw [htold]; simpa using hlen) (by rw [numb_len]; simp)
  rw [hl, tk_end]
  simp [endR, htold]
theorem print_ok (xs : List Ctl) (hok : xs.all okC = true) (hlen : xs.length ≤ 16777216) : printS xs = (mkS (printB xs), 0) := by
  unfold printS
  rw [if_neg (by omega), if_pos hok]
  rfl
end Go.Proofs.YtbhbpopebmdemaaDoor
