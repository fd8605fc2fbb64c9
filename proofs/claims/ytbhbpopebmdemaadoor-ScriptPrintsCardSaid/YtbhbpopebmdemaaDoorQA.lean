import Derived.Test.YtbhbpopebmdemaaDoorM1
import Derived.Test.YtbhbpopebmdemaaDoorPAx19
import Derived.Test.YtbhbpopebmdemaaDoorU1
namespace Go.Proofs.YtbhbpopebmdemaaDoor
open Go.RowKit Go.Proofs.YtbhbpopebmdemaaDoorW.PrintWords Go.Proofs.YtbhbpopebmdemaaDoorW.PrintLast Go.Proofs.YtbhbpopebmdemaaDoorW.PrintMore
open ChiPure Go.Lib
set_option linter.unusedVariables false
set_option linter.unusedSimpArgs false

/-! ### the reference's text of a number -/
theorem u64_small {n : Int} (h0 : 0 ≤ n) (h1 : n < 18446744073709551616) : IntKind.u64.wrap n = n := by
  simp only [IntKind.wrap]
  simp [IntKind.bits, show IntKind.u64.signed = false from rfl]
  omega
theorem nums_nil (acc : List Int) : (strOfNums acc).toList = [] ↔ acc = [] := by
  rw [ByteArray.toList_eq]
  simp [strOfNums]
theorem digits_dec : ∀ (f u : Nat) (acc : List Int) (k : Nat), u < 10 ^ f → u < 18446744073709551616 → (acc ≠ [] ∨ 1 ≤ f) → f < k → acc.length + f ≤ 100 → PA.chicaneref36_digits.l0 k (u : Int) (strOfNums acc) = some (strOfNums (dec 1 f u acc))
  | 0, u, acc, k, hu, _, ha, hk, _ => by
    obtain ⟨k1, rfl⟩ : ∃ k1, k = k1 + 1 := ⟨k - 1, by omega⟩
    have hacc : acc ≠ [] := by rcases ha with h | h; exact h; omega
    have hu0 : u = 0 := by simpa using hu
    subst hu0
    unfold PA.chicaneref36_digits.l0 dec
    rw [if_neg (by simp), if_neg (fun h => hacc ((nums_nil acc).1 h))]
  | f + 1, u, acc, k, hu, hu2, ha, hk, hl => by
    obtain ⟨k1, rfl⟩ : ∃ k1, k = k1 + 1 := ⟨k - 1, by omega⟩
    have hdig : (([(IntKind.u64.wrap (48 + (Int.tmod (u : Int) 10))) % 256] : List Int)) = [((48 + u % 10 : Nat) : Int)] := by
      rw [Int.tmod_eq_emod_of_nonneg (by omega), u64_small (by omega) (by omega)]
      congr 1
      omega
    have hq : IntKind.u64.wrap (Int.tdiv (u : Int) 10) = ((u / 10 : Nat) : Int) := by
      rw [Int.tdiv_eq_ediv_of_nonneg (by omega), u64_small (by omega) (by omega)]
      omega
    have hcat : strOfNums [((48 + u % 10 : Nat) : Int)] ++ strOfNums acc = strOfNums (((48 + u % 10 : Nat) : Int) :: acc) := by
      apply ByteArray.ext
      simp [strOfNums]
    have hs1 : (strOfNums [((48 + u % 10 : Nat) : Int)]).size + (strOfNums acc).size ≤ 9223372036854775807 := by
      rw [strOfNums_size, strOfNums_size]; simp; omega
    have ih := digits_dec f (u / 10) (((48 + u % 10 : Nat) : Int) :: acc) k1 (by rw [Nat.pow_succ] at hu; omega) (by omega) (.inl (by simp)) (by omega) (by simp; omega)
    unfold PA.chicaneref36_digits.l0 dec
    by_cases h0 : 0 < u
    · rw [if_pos (by omega), if_pos (.inl h0), Option.bind_some, hdig, if_pos hs1, hq, hcat]
      exact ih
    · have hu0 : u = 0 := by omega
      subst hu0
      rw [if_neg (by simp)]
      by_cases hacc : acc = []
      · subst hacc
        rw [if_pos ((nums_nil []).2 rfl), if_pos (.inr (by simp)), Option.bind_some, hdig, if_pos hs1, hq, hcat]
        exact ih
      · rw [if_neg (fun h => hacc ((nums_nil acc).1 h)), if_neg]
        intro h
        rcases h with h | h
        · omega
        · have : 1 ≤ acc.length := by
            cases acc with
            | nil => exact absurd rfl hacc
            | cons a b => simp
          omega
theorem rwhole_spec (n : Int) (k : Nat) (hk : 40 ≤ k) (h1 : -9223372036854775808 ≤ n) (h2 : n ≤ 9223372036854775807) : PA.chicaneref36_Whole.f k n = some (wholeS n) := by
  have hd := digits_dec 21 n.natAbs [] k (by omega) (by omega) (.inr (by omega)) (by omega) (by simp)
  have hlen : (strOfNums (dec 1 21 n.natAbs [])).size ≤ 21 := by
    have := dec_len 1 21 n.natAbs []
    rw [strOfNums_size]; simpa using this
  unfold PA.chicaneref36_Whole.f wholeS signS
  by_cases h : n < 0
  · have hs : PA.chicaneref01_Size.f n = some (n.natAbs : Int) := by
      unfold PA.chicaneref01_Size.f
      rw [if_pos h]
      have w1 : wrap64 (n + 1) = n + 1 := by unfold wrap64; omega
      have w2 : wrap64 (-(n + 1)) = -(n + 1) := by unfold wrap64; omega
      rw [w1, w2, u64_small (n := -(n + 1)) (by omega) (by omega), u64_small (n := -(n + 1) + 1) (by omega) (by omega)]
      congr 1
      omega
    rw [if_pos h, if_pos h, hs, Option.bind_some]
    unfold PA.chicaneref36_digits.f
    rw [show (⟨#[]⟩ : ByteArray) = strOfNums [] from rfl, hd, Option.bind_some, if_pos (by omega)]
  · rw [if_neg h, if_neg h, u64_small (by omega) (by omega)]
    unfold PA.chicaneref36_digits.f
    rw [show n = ((n.natAbs : Nat) : Int) by omega]
    rw [show (⟨#[]⟩ : ByteArray) = strOfNums [] from rfl, hd, Option.bind_some]
    rw [Int.natAbs_natCast]
    congr 1

/-! ### the reference's look at a control -/
theorem rin_spec (a b c : Int) : PA.chicaneref19_in.f a b c = some (decide (b ≤ a ∧ a ≤ c)) := by
  unfold PA.chicaneref19_in.f
  by_cases h : a ≥ b
  · rw [if_pos h]; congr 1; simp; omega
  · rw [if_neg h]; congr 1; simp; omega
theorem rright_spec (x : Ctl) : PA.chicaneref19_Right.f x.f0 x.f1 x.f2 x.f3 x.f4 x.f5 x.f6 = some (if okC x then 0 else 40) := by
  unfold PA.chicaneref19_Right.f okC
  simp only [rin_spec, Option.bind_some]
  generalize decide (0 ≤ x.f0 ∧ x.f0 ≤ 255) = p0
  generalize decide (0 ≤ x.f1 ∧ x.f1 ≤ 255) = p1
  generalize decide (0 ≤ x.f2 ∧ x.f2 ≤ 255) = p2
  generalize decide (-127 ≤ x.f3 ∧ x.f3 ≤ 127) = p3
  generalize decide (-1 ≤ x.f4 ∧ x.f4 ≤ 8) = p4
  cases p0 <;> cases p1 <;> cases p2 <;> cases p3 <;> cases p4 <;> rfl

/-! ### the reference's runs -/
def lensL (xs : List Ctl) : List Int := (runsL xs).map fun p => (p.2 : Int)
theorem lensL_cons (x : Ctl) (r : List Ctl) : lensL (x :: r) = (1 + lead x r : Int) :: lensL (r.drop (lead x r)) := by
  unfold lensL
  rw [runsL_cons, List.map_cons]
  have h : lead x (x :: r) = lead x r + 1 := by conv => lhs; unfold lead; rw [if_pos (eqC_refl x)]
  rw [h, List.drop_succ_cons]
  congr 1
  omega
theorem rd35 (xs : List Ctl) (i : Nat) (h : i < xs.length) : PA.rd_T35 xs (i : Int) = xs[i] := by
  unfold PA.rd_T35
  rw [Int.toNat_natCast, List.getD_eq_getElem?_getD, List.getElem?_eq_getElem h]
  rfl
theorem set_last (acc : List Int) (a b : Int) : (acc ++ [a]).set ((acc.length : Int)).toNat b = acc ++ [b] := by
  rw [Int.toNat_natCast, List.set_append_right _ _ (Nat.le_refl _)]
  simp
theorem rruns_l (xs : List Ctl) (hl : xs.length ≤ 1000000) : ∀ (r : List Ctl) (i k : Nat) (y : Ctl) (acc : List Int) (n : Nat), xs.drop i = r → 1 ≤ i → xs[i - 1]? = some y → r.length < k → acc.length + 1 ≤ i → n ≤ i →
    PA.chicaneref39_Runs.l0 k xs (acc ++ [(n : Int)]) (i : Int) = some (acc ++ ((n + lead y r : Nat) : Int) :: lensL (r.drop (lead y r)))
  | [], i, k, y, acc, n, hr, hi, hy, hk, _, _ => by
    obtain ⟨k1, rfl⟩ : ∃ k1, k = k1 + 1 := ⟨k - 1, by omega⟩
    have hlen : xs.length ≤ i := by simpa using hr
    unfold PA.chicaneref39_Runs.l0
    rw [if_neg (by omega)]
    have h1 : lead y [] = 0 := rfl
    have h2 : lensL [] = [] := rfl
    rw [h1, List.drop_nil, h2, Nat.add_zero]
  | x :: r, i, k, y, acc, n, hr, hi, hy, hk, ha, hn => by
    obtain ⟨k1, rfl⟩ : ∃ k1, k = k1 + 1 := ⟨k - 1, by omega⟩
    have hlen : i < xs.length := by
      have := congrArg List.length hr
      simp at this
      omega
    have hx : xs[i]'hlen = x := by
      have := congrArg List.head? hr
      rw [List.head?_drop, List.getElem?_eq_getElem hlen] at this
      simpa using this
    have hy' : xs[i - 1]'(by omega) = y := by
      rw [List.getElem?_eq_getElem (by omega)] at hy
      simpa using hy
    have hw1 : wrap64 ((i : Int) - 1) = ((i - 1 : Nat) : Int) := by unfold wrap64; omega
    have hw2 : wrap64 ((i : Int) + 1) = ((i + 1 : Nat) : Int) := by unfold wrap64; omega
    have hdr : xs.drop (i + 1) = r := by rw [← List.drop_drop, hr]; rfl
    have hlast : xs[i + 1 - 1]? = some x := by
      rw [Nat.add_sub_cancel, List.getElem?_eq_getElem hlen, hx]
    have hal : (acc ++ [(n : Int)]).length = acc.length + 1 := by simp
    have hw3 : wrap64 (((acc ++ [(n : Int)]).length : Int) - 1) = (acc.length : Int) := by rw [hal]; unfold wrap64; omega
    have hrd : rd (acc ++ [(n : Int)]) (acc.length : Int) = n := by
      unfold rd
      rw [Int.toNat_natCast, List.getD_eq_getElem?_getD, List.getElem?_append_right (Nat.le_refl _)]
      simp
    have hw4 : wrap64 ((n : Int) + 1) = ((n + 1 : Nat) : Int) := by unfold wrap64; omega
    unfold PA.chicaneref39_Runs.l0
    rw [if_pos (by omega), if_pos (by omega), if_pos (by omega), hw1, if_pos (by omega), if_pos (by omega), rd35 xs i hlen, rd35 xs (i - 1) (by omega), hx, hy', hw2]
    have heq : (x.f0 == y.f0 && (x.f1 == y.f1 && (x.f2 == y.f2 && (x.f3 == y.f3 && (x.f4 == y.f4 && (x.f5 == y.f5 && x.f6 == y.f6)))))) = eqC x y := by unfold eqC; rfl
    rw [heq]
    by_cases he : eqC x y = true
    · rw [if_pos he, hw3, if_pos (by omega), if_pos (by rw [hal]; omega), hrd, hw4]
      have hset := set_last acc (n : Int) ((n + 1 : Nat) : Int)
      rw [hset]
      have hxy : x = y := (eqC_iff x y).1 he
      rw [rruns_l xs hl r (i + 1) k1 y acc (n + 1) hdr (by omega) (hxy ▸ hlast) (Nat.lt_of_succ_lt_succ hk) (Nat.le_succ_of_le ha) (Nat.succ_le_succ hn)]
      have hld : lead y (x :: r) = lead y r + 1 := by conv => lhs; unfold lead; rw [if_pos he]
      rw [hld, List.drop_succ_cons, show n + 1 + lead y r = n + (lead y r + 1) by omega]
    · rw [if_neg he, if_pos (by rw [hal]; omega)]
      have := rruns_l xs hl r (i + 1) k1 x (acc ++ [(n : Int)]) 1 hdr (by omega) hlast (by simp at hk; omega) (by simp; omega) (by omega)
      rw [show ((1 : Nat) : Int) = 1 from rfl] at this
      rw [this]
      have hld : lead y (x :: r) = 0 := by conv => lhs; unfold lead; rw [if_neg he]
      rw [hld, List.drop_zero, lensL_cons]
      simp
theorem rruns_spec (xs : List Ctl) (hl : xs.length ≤ 1000000) (k : Nat) (hk : xs.length < k) : PA.chicaneref39_Runs.f k xs = some (lensL xs) := by
  unfold PA.chicaneref39_Runs.f
  obtain ⟨k1, rfl⟩ : ∃ k1, k = k1 + 1 := ⟨k - 1, by omega⟩
  cases xs with
  | nil => unfold PA.chicaneref39_Runs.l0; rw [if_neg (by simp)]; rfl
  | cons x r =>
    simp only [List.length_cons] at hl hk
    unfold PA.chicaneref39_Runs.l0
    rw [if_pos (by simp only [List.length_cons]; omega), if_neg (by omega), if_pos (by simp)]
    have hw : wrap64 ((0 : Int) + 1) = ((1 : Nat) : Int) := by unfold wrap64; omega
    have := rruns_l (x :: r) (by simp; omega) r 1 k1 x [] 1 rfl (by omega) rfl (by omega) (by simp) (by omega)
    rw [hw, List.nil_append]
    rw [show ((1 : Nat) : Int) = 1 from rfl, List.nil_append] at this
    rw [show ((1 : Nat) : Int) = 1 from rfl, this, List.nil_append, lensL_cons]
    simp
end Go.Proofs.YtbhbpopebmdemaaDoor

namespace Go.Proofs.YtbhbpopebmdemaaDoor
open Go.RowKit Go.Proofs.YtbhbpopebmdemaaDoorW.PrintWords Go.Proofs.YtbhbpopebmdemaaDoorW.PrintLast Go.Proofs.YtbhbpopebmdemaaDoorW.PrintMore
open ChiPure Go.Lib
set_option linter.unusedVariables false
set_option linter.unusedSimpArgs false

theorem mkS_app (a b : List UInt8) : mkS a ++ mkS b = mkS (a ++ b) := by
  apply ByteArray.ext
  simp [mkS]
theorem mkS_sz (a : List UInt8) : (mkS a).size = a.length := rfl
theorem pcB_mk (x : Int) : (⟨#[32]⟩ : ByteArray) ++ wholeS x = mkS (pcB x) := by
  apply ByteArray.ext
  simp [mkS, pcB]
theorem lit_auto : (⟨#[32, 97, 117, 116, 111]⟩ : ByteArray) = mkS [32, 97, 117, 116, 111] := rfl
theorem lit_reset : (⟨#[32, 114, 101, 115, 101, 116]⟩ : ByteArray) = mkS [32, 114, 101, 115, 101, 116] := rfl
theorem lit_nl : (⟨#[10]⟩ : ByteArray) = mkS [10] := rfl

theorem l2_step (xs : List Ctl) (L : List UInt8) (a : Int) (lens : List Int) (j : Int) (fl : List Int) (i : Nat) (v : Int) (k : Nat) (c0 c1 c2 c3 c4 : Int) (c5 c6 : Bool) (hi : i < 6) (hfl : fl.length = 6) (hv : fl[i]? = some v) (hk : 40 ≤ k) (hL : L.length ≤ 1000000)
    (h1 : -9223372036854775808 ≤ v) (h2 : v ≤ 9223372036854775807) :
    PA.chicaneref39_Print.l2 (k + 1) xs (mkS L) a lens j fl (i : Int) c0 c1 c2 c3 c4 c5 c6 = PA.chicaneref39_Print.l2 k xs (mkS (L ++ pcB v)) a lens j fl ((i + 1 : Nat) : Int) c0 c1 c2 c3 c4 c5 c6 := by
  have hrd : rd fl (i : Int) = v := by
    unfold rd
    rw [Int.toNat_natCast, List.getD_eq_getElem?_getD, hv]
    rfl
  have hw : wrap64 ((i : Int) + 1) = ((i + 1 : Nat) : Int) := by unfold wrap64; omega
  have hws := wholeS_size v
  have hpl := pcB_len v
  conv => lhs; unfold PA.chicaneref39_Print.l2
  rw [if_pos (by omega), if_pos (by omega), if_pos (by omega), hrd, rwhole_spec v k hk h1 h2, Option.bind_some, if_pos (by omega), pcB_mk, if_pos (by rw [mkS_sz, mkS_sz]; omega), mkS_app, hw]

theorem l2_last (xs : List Ctl) (L : List UInt8) (a : Int) (lens : List Int) (j : Nat) (fl : List Int) (k : Nat) (c0 c1 c2 c3 c4 : Int) (c5 c6 : Bool) (hL : L.length ≤ 1000000) (hj : j < lens.length) (hl : lens.length ≤ 1000000) :
    PA.chicaneref39_Print.l2 (k + 1) xs (mkS L) a lens (j : Int) fl 6 c0 c1 c2 c3 c4 c5 c6 = PA.chicaneref39_Print.l1 k xs (mkS (L ++ autoB c5 ++ resetB c6 ++ [10])) (wrap64 (a + rd lens (j : Int))) lens ((j + 1 : Nat) : Int) := by
  have hw : wrap64 ((j : Int) + 1) = ((j + 1 : Nat) : Int) := by unfold wrap64; omega
  conv => lhs; unfold PA.chicaneref39_Print.l2
  rw [if_neg (by omega), lit_auto, lit_reset, lit_nl, hw]
  cases c5 with
  | true =>
    rw [if_pos rfl, if_pos (by rw [mkS_sz]; omega)]
    cases c6 with
    | true =>
      rw [if_pos rfl, mkS_app, if_pos (by rw [mkS_sz]; simp; omega), mkS_app, if_pos (by rw [mkS_sz]; simp; omega), if_pos (by omega), if_pos (by omega), mkS_app]
      rfl
    | false =>
      rw [if_neg (by simp), mkS_app, if_pos (by rw [mkS_sz]; simp; omega), if_pos (by omega), if_pos (by omega), mkS_app]
      simp [autoB, resetB]
  | false =>
    rw [if_neg (by simp)]
    cases c6 with
    | true =>
      rw [if_pos rfl, if_pos (by rw [mkS_sz]; omega), mkS_app, if_pos (by rw [mkS_sz]; simp; omega), if_pos (by omega), if_pos (by omega), mkS_app]
      simp [autoB, resetB]
    | false =>
      rw [if_neg (by simp), if_pos (by rw [mkS_sz]; omega), if_pos (by omega), if_pos (by omega), mkS_app]
      simp [autoB, resetB]

theorem l2_row (xs : List Ctl) (L : List UInt8) (a : Int) (lens : List Int) (j : Nat) (x : Ctl) (n : Nat) (k : Nat) (hk : 40 ≤ k) (hL : L.length ≤ 200000) (hj : j < lens.length) (hl : lens.length ≤ 1000000) (hn : n ≤ 1000000) (hx : okC x = true) :
    PA.chicaneref39_Print.l2 (k + 7) xs (mkS L) a lens (j : Int) (fldL (x, n)) 0 x.f0 x.f1 x.f2 x.f3 x.f4 x.f5 x.f6 = PA.chicaneref39_Print.l1 k xs (mkS (L ++ (fldL (x, n)).flatMap pcB ++ autoB x.f5 ++ resetB x.f6 ++ [10])) (wrap64 (a + rd lens (j : Int))) lens ((j + 1 : Nat) : Int) := by
  simp only [okC, Bool.and_eq_true, decide_eq_true_eq] at hx
  obtain ⟨h0, h1, h2, h3, h4⟩ := hx
  have p0 := pcB_len (n : Int)
  have p1 := pcB_len x.f0
  have p2 := pcB_len x.f1
  have p3 := pcB_len x.f2
  have p4 := pcB_len x.f3
  have p5 := pcB_len x.f4
  have s0 := l2_step xs L a lens j (fldL (x, n)) 0 (n : Int) (k + 6) x.f0 x.f1 x.f2 x.f3 x.f4 x.f5 x.f6 (by omega) rfl rfl (by omega) (by omega) (by omega) (by omega)
  have s1 := l2_step xs (L ++ pcB n) a lens j (fldL (x, n)) 1 x.f0 (k + 5) x.f0 x.f1 x.f2 x.f3 x.f4 x.f5 x.f6 (by omega) rfl rfl (by omega) (by simp; omega) (by omega) (by omega)
  have s2 := l2_step xs (L ++ pcB n ++ pcB x.f0) a lens j (fldL (x, n)) 2 x.f1 (k + 4) x.f0 x.f1 x.f2 x.f3 x.f4 x.f5 x.f6 (by omega) rfl rfl (by omega) (by simp; omega) (by omega) (by omega)
  have s3 := l2_step xs (L ++ pcB n ++ pcB x.f0 ++ pcB x.f1) a lens j (fldL (x, n)) 3 x.f2 (k + 3) x.f0 x.f1 x.f2 x.f3 x.f4 x.f5 x.f6 (by omega) rfl rfl (by omega) (by simp; omega) (by omega) (by omega)
  have s4 := l2_step xs (L ++ pcB n ++ pcB x.f0 ++ pcB x.f1 ++ pcB x.f2) a lens j (fldL (x, n)) 4 x.f3 (k + 2) x.f0 x.f1 x.f2 x.f3 x.f4 x.f5 x.f6 (by omega) rfl rfl (by omega) (by simp; omega) (by omega) (by omega)
  have s5 := l2_step xs (L ++ pcB n ++ pcB x.f0 ++ pcB x.f1 ++ pcB x.f2 ++ pcB x.f3) a lens j (fldL (x, n)) 5 x.f4 (k + 1) x.f0 x.f1 x.f2 x.f3 x.f4 x.f5 x.f6 (by omega) rfl rfl (by omega) (by simp; omega) (by omega) (by omega)
  have s6 := l2_last xs (L ++ pcB n ++ pcB x.f0 ++ pcB x.f1 ++ pcB x.f2 ++ pcB x.f3 ++ pcB x.f4) a lens j (fldL (x, n)) k x.f0 x.f1 x.f2 x.f3 x.f4 x.f5 x.f6 (by simp; omega) hj hl
  refine (s0.trans (s1.trans (s2.trans (s3.trans (s4.trans (s5.trans (s6.trans ?_)))))))
  congr 3
  simp [fldL]

theorem l1_spec (xs : List Ctl) (hl : xs.length ≤ 500) : ∀ (d : Nat) (ys : List Ctl) (a j k : Nat) (L : List UInt8), ys.length ≤ d → xs.drop a = ys → (lensL xs).drop j = lensL ys → 8 * ys.length + 50 ≤ k → L.length + 160 * ys.length ≤ 200000 → ys.all okC = true →
    PA.chicaneref39_Print.l1 k xs (mkS L) (a : Int) (lensL xs) (j : Int) = some (mkS (L ++ (runsL ys).flatMap lineB ++ [101, 110, 100, 10]), 0)
  | _, [], a, j, k, L, _, hxs, hj, hk, hL, _ => by
    obtain ⟨k1, rfl⟩ : ∃ k1, k = k1 + 1 := ⟨k - 1, by omega⟩
    have hjl : (lensL xs).length ≤ j := by
      have : (lensL xs).drop j = [] := hj
      simpa using this
    simp only [List.length_nil] at hL
    unfold PA.chicaneref39_Print.l1
    rw [if_neg (by omega), if_pos (by rw [mkS_sz]; omega), show (⟨#[101, 110, 100, 10]⟩ : ByteArray) = mkS [101, 110, 100, 10] from rfl, mkS_app]
    rw [show runsL [] = [] from rfl, List.flatMap_nil, List.append_nil]
  | 0, x :: r, a, j, k, L, hd, _, _, _, _, _ => by simp at hd
  | d + 1, x :: r, a, j, k, L, hd, hxs, hj, hk, hL, hok => by
    obtain ⟨k1, rfl⟩ : ∃ k1, k = k1 + 8 := ⟨k - 8, by simp at hk; omega⟩
    simp only [List.length_cons] at hd hk hL
    have hle := lead_le x r
    have hlb := lineB_len (x, 1 + lead x r)
    have f1 : 40 ≤ k1 := by omega
    have f2 : (L ++ [100, 111]).length ≤ 200000 := by rw [List.length_append]; simp only [List.length_cons, List.length_nil]; omega
    have f5 : (r.drop (lead x r)).length ≤ d := by rw [List.length_drop]; omega
    have f6 : 8 * (r.drop (lead x r)).length + 50 ≤ k1 := by rw [List.length_drop]; omega
    have f7 : (L ++ lineB (x, 1 + lead x r)).length + 160 * (r.drop (lead x r)).length ≤ 200000 := by rw [List.length_append, List.length_drop]; omega
    have hlenx : xs.length = a + (r.length + 1) ∧ a < xs.length := by
      have := congrArg List.length hxs
      simp at this
      omega
    obtain ⟨hlx, hax⟩ := hlenx
    have hxa : PA.rd_T35 xs (a : Int) = x := by
      rw [rd35 xs a hax]
      have := congrArg List.head? hxs
      rw [List.head?_drop, List.getElem?_eq_getElem hax] at this
      simpa using this
    rw [lensL_cons] at hj
    have hjl : j < (lensL xs).length := by
      have := congrArg List.length hj
      simp at this
      omega
    have hrdj : rd (lensL xs) (j : Int) = 1 + lead x r := by
      unfold rd
      have := congrArg List.head? hj
      rw [List.head?_drop, List.head?_cons] at this
      rw [Int.toNat_natCast, List.getD_eq_getElem?_getD, this]
      rfl
    have hlensz : (lensL xs).length ≤ 500 := by
      have := runsL_len xs
      unfold lensL
      rw [List.length_map]
      omega
    have f3 : (lensL xs).length ≤ 1000000 := Nat.le_trans hlensz (by decide)
    have f4 : 1 + lead x r ≤ 1000000 := by clear hrdj hj hxs hk; omega
    have hj2 : (lensL xs).drop (j + 1) = lensL (r.drop (lead x r)) := by
      rw [← List.drop_drop, hj]
      rfl
    have hdrop : xs.drop (a + (1 + lead x r)) = r.drop (lead x r) := by
      rw [← List.drop_drop, hxs, Nat.add_comm 1, List.drop_succ_cons]
    simp only [List.all_cons, Bool.and_eq_true] at hok
    have hld : lead x (x :: r) = 1 + lead x r := by conv => lhs; unfold lead; rw [if_pos (eqC_refl x)]; rw [Nat.add_comm]
    have hrow : ([rd (lensL xs) (j : Int), x.f0, x.f1, x.f2, x.f3, x.f4] : List Int) = fldL (x, 1 + lead x r) := by
      rw [hrdj]
      simp [fldL]
    conv => lhs; unfold PA.chicaneref39_Print.l1
    rw [if_pos (by omega), if_pos (by omega), if_pos (by omega), if_pos (by rw [mkS_sz]; omega), if_pos (by omega), show (⟨#[100, 111]⟩ : ByteArray) = mkS [100, 111] from rfl, mkS_app, hxa, hrow]
    have hwa : wrap64 ((a : Int) + (1 + (lead x r : Int))) = ((a + (1 + lead x r) : Nat) : Int) := by clear hrdj hrow hj hj2 hxs hdrop hk hld; unfold wrap64; omega
    rw [l2_row xs (L ++ [100, 111]) a (lensL xs) j x (1 + lead x r) k1 f1 f2 hjl f3 f4 hok.1, hrdj, hwa]
    have hline : L ++ [100, 111] ++ (fldL (x, 1 + lead x r)).flatMap pcB ++ autoB x.f5 ++ resetB x.f6 ++ [10] = L ++ lineB (x, 1 + lead x r) := by
      unfold lineB
      simp only [List.append_assoc]
    rw [hline]
    rw [l1_spec xs hl d (r.drop (lead x r)) (a + (1 + lead x r)) (j + 1) k1 (L ++ lineB (x, 1 + lead x r)) f5 hdrop hj2 f6 f7 ?_]
    · rw [runsL_cons, hld, Nat.add_comm 1 (lead x r), List.drop_succ_cons, List.flatMap_cons]
      simp only [List.append_assoc]
    · rw [List.all_eq_true] at hok ⊢
      exact fun y hy => hok.2 y (List.mem_of_mem_drop hy)

theorem l0_good (xs : List Ctl) (hl : xs.length ≤ 500) : ∀ (d i k : Nat), i + d = xs.length → (xs.drop i).all okC = true → d < k →
    PA.chicaneref39_Print.l0 k xs (i : Int) = (PA.chicaneref39_Runs.f (k - d - 1) xs).bind fun t => PA.chicaneref39_Print.l1 (k - d - 1) xs (⟨#[115, 99, 114, 105, 112, 116, 10]⟩ : ByteArray) 0 t 0
  | 0, i, k, hi, ha, hk => by
    obtain ⟨k1, rfl⟩ : ∃ k1, k = k1 + 1 := ⟨k - 1, by omega⟩
    conv => lhs; unfold PA.chicaneref39_Print.l0
    rw [if_neg (by omega)]
    rfl
  | d + 1, i, k, hi, ha, hk => by
    obtain ⟨k1, rfl⟩ : ∃ k1, k = k1 + 1 := ⟨k - 1, by omega⟩
    have hlt : i < xs.length := by omega
    have hw : wrap64 ((i : Int) + 1) = ((i + 1 : Nat) : Int) := by unfold wrap64; omega
    rw [List.drop_eq_getElem_cons hlt, List.all_cons, Bool.and_eq_true] at ha
    conv => lhs; unfold PA.chicaneref39_Print.l0
    rw [if_pos (by omega), if_pos (by omega), rright_spec, rd35 xs i hlt, ha.1, Option.bind_some, if_pos (by rfl), hw, l0_good xs hl d (i + 1) k1 (by omega) ha.2 (by omega)]
    rw [show k1 - d - 1 = k1 + 1 - (d + 1) - 1 by omega]
theorem l0_bad (xs : List Ctl) (hl : xs.length ≤ 500) : ∀ (d i k : Nat), i + d = xs.length → (xs.drop i).all okC = false → d < k →
    PA.chicaneref39_Print.l0 k xs (i : Int) = some ((⟨#[]⟩ : ByteArray), 40)
  | 0, i, k, hi, ha, hk => by
    rw [List.drop_of_length_le (by omega)] at ha
    cases ha
  | d + 1, i, k, hi, ha, hk => by
    obtain ⟨k1, rfl⟩ : ∃ k1, k = k1 + 1 := ⟨k - 1, by omega⟩
    have hlt : i < xs.length := by omega
    have hw : wrap64 ((i : Int) + 1) = ((i + 1 : Nat) : Int) := by unfold wrap64; omega
    rw [List.drop_eq_getElem_cons hlt, List.all_cons] at ha
    conv => lhs; unfold PA.chicaneref39_Print.l0
    rw [if_pos (by omega), if_pos (by omega), rright_spec, rd35 xs i hlt, Option.bind_some]
    cases h : okC xs[i] with
    | true =>
      rw [h, Bool.true_and] at ha
      rw [if_pos (by rfl), hw, l0_bad xs hl d (i + 1) k1 (by omega) ha (by omega)]
    | false => rw [if_neg (by simp)]
theorem rprint_spec (xs : List Ctl) (hl : xs.length ≤ 500) : PA.chicaneref39_Print.f 10000 xs = some (printS xs) := by
  unfold PA.chicaneref39_Print.f printS
  rw [if_neg (by omega), if_neg (by omega)]
  cases h : xs.all okC with
  | true =>
    rw [show (0 : Int) = ((0 : Nat) : Int) from rfl, l0_good xs hl xs.length 0 10000 (by omega) (by simpa using h) (by omega), rruns_spec xs (by omega) _ (by omega), Option.bind_some]
    have := l1_spec xs hl xs.length xs 0 0 (10000 - xs.length - 1) headB (Nat.le_refl _) rfl rfl (by omega) (by simp [headB]; omega) h
    rw [show (⟨#[115, 99, 114, 105, 112, 116, 10]⟩ : ByteArray) = mkS headB from rfl]
    refine this.trans ?_
    rfl
  | false =>
    rw [show (0 : Int) = ((0 : Nat) : Int) from rfl, l0_bad xs hl xs.length 0 10000 (by omega) (by simpa using h) (by omega)]
    rfl
end Go.Proofs.YtbhbpopebmdemaaDoor
