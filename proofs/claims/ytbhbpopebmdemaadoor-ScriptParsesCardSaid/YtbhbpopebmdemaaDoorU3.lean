import Derived.Test.YtbhbpopebmdemaaDoorU2
import Derived.Test.YtbhbpopebmdemaaDoorPAx6
import Derived.Test.YtbhbpopebmdemaaDoorPAx11
namespace Go.Proofs.YtbhbpopebmdemaaDoor
open Go.RowKit Go.Proofs.YtbhbpopebmdemaaDoorW.PrintWords Go.Proofs.YtbhbpopebmdemaaDoorW.PrintLast Go.Proofs.YtbhbpopebmdemaaDoorW.PrintMore
open ChiPure Go.Proofs.YtbhbpopebmdemaaDoor.PA
set_option linter.unusedVariables false
set_option linter.unusedSimpArgs false

def isDig (c : UInt8) : Bool := 48 ≤ c.toNat && c.toNat ≤ 57
/-- digits' number, one behind the other. -/
def numL : List UInt8 → Nat → Option Nat
  | [], n => some n
  | c :: l, n => if isDig c then numL l (10 * n + (c.toNat - 48)) else none
/-- from least to most digits. -/
def numS (l : List UInt8) (most : Nat) : Int × Bool :=
  if l = [] ∨ most < l.length then (0, false) else match numL l 0 with
    | some n => ((n : Int), true)
    | none => (0, false)
/-- a whole number's text: the number, and the error. -/
def rdW (l : List UInt8) : Int × Int :=
  if l.head? = some 45 then (if (numS l.tail 18).2 then (-(numS l.tail 18).1, 0) else (0, 24))
  else (if (numS l 18).2 then ((numS l 18).1, 0) else (0, 24))

theorem numL_lt : ∀ (l : List UInt8) (n m : Nat), numL l n = some m → m < (n + 1) * 10 ^ l.length
  | [], n, m, h => by simp [numL] at h; subst h; simp
  | c :: l, n, m, h => by
    unfold numL at h
    split at h
    · rename_i hd
      have ih := numL_lt l _ m h
      simp only [isDig, Bool.and_eq_true, decide_eq_true_eq] at hd
      have h2 : 10 * n + (c.toNat - 48) + 1 ≤ 10 * (n + 1) := by omega
      calc m < (10 * n + (c.toNat - 48) + 1) * 10 ^ l.length := ih
        _ ≤ (10 * (n + 1)) * 10 ^ l.length := Nat.mul_le_mul_right _ h2
        _ = (n + 1) * 10 ^ (c :: l).length := by rw [List.length_cons, Nat.pow_succ, Nat.mul_comm 10, Nat.mul_assoc, Nat.mul_comm 10]
    · cases h

theorem bt_drop (s : ByteArray) (i : Nat) (h : i < s.size) : s.data.toList.drop i = (s.get! i) :: s.data.toList.drop (i + 1) := bytes_get s i h
theorem bt_get (s : ByteArray) (i : Nat) (h : i < s.size) : bt s (i : Int) = ((s.get! i).toNat : Int) := by
  have h1 : i < s.data.toList.length := by rw [data_len]; exact h
  rw [get!_eq s i h]
  unfold bt
  rw [dif_pos (by simpa using h)]
  simp
  rfl

theorem wrap_small {n : Int} (h0 : -9223372036854775808 ≤ n) (h1 : n ≤ 9223372036854775807) : wrap64 n = n := by
  unfold wrap64; omega

theorem isDig_bt (c : UInt8) : (((c.toNat : Int) - 48) % 256 > 9) ↔ isDig c = false := by
  have : c.toNat < 256 := c.toNat_lt
  unfold isDig
  simp only [Bool.and_eq_false_iff, decide_eq_false_iff_not]
  omega

/-- the loop of words.number. -/
theorem number_loop (s : ByteArray) (hs : s.size ≤ 18) : ∀ (d i n k : Nat), i ≤ s.size → s.size - i = d → d < k → n < 10 ^ i →
    words_number.l0 k s (n : Int) (s.size : Int) (i : Int) = some (match numL (s.data.toList.drop i) n with | some m => ((m : Int), true) | none => (0, false)) := by
  intro d
  induction d with
  | zero =>
    intro i n k hi hd hk hn
    obtain ⟨k, rfl⟩ : ∃ m, k = m + 1 := ⟨k - 1, by omega⟩
    have : i = s.size := by omega
    subst this
    have hz : s.data.toList.drop s.size = [] := List.drop_of_length_le (by rw [data_len]; exact Nat.le_refl _)
    simp only [words_number.l0]
    rw [if_neg (by omega), hz]
    rfl
  | succ d ih =>
    intro i n k hi hd hk hn
    obtain ⟨k, rfl⟩ : ∃ m, k = m + 1 := ⟨k - 1, by omega⟩
    have hlt : i < s.size := by omega
    have a1 : s.size - (i + 1) = d := by omega
    have a2 : d < k := by omega
    simp only [words_number.l0]
    rw [if_pos (by omega), if_pos (by omega), if_pos (by omega), bt_get s i hlt, bt_drop s i hlt]
    have h256 : (s.get! i).toNat < 256 := (s.get! i).toNat_lt
    simp only [numL]
    by_cases hdg : isDig (s.get! i) = true
    · rw [if_neg (by rw [isDig_bt]; simp [hdg])]
      have hd2 := hdg
      simp only [isDig, Bool.and_eq_true, decide_eq_true_eq] at hd2
      simp only [hdg, if_true]
      have hp : n < 100000000000000000 := Nat.lt_of_lt_of_le hn (Nat.le_trans (Nat.pow_le_pow_right (by omega) (show i ≤ 17 by omega)) (by decide))
      have hg10 : 10 * n + ((s.get! i).toNat - 48) < 10 ^ (i + 1) := by rw [Nat.pow_succ]; omega
      clear hn
      have e1 : wrap64 (10 * (n : Int)) = ((10 * n : Nat) : Int) := by rw [wrap_small (by omega) (by omega)]; omega
      have e2 : (((s.get! i).toNat : Int) - 48) % 256 = (((s.get! i).toNat - 48 : Nat) : Int) := by omega
      have e3 : wrap64 ((i : Int) + 1) = ((i + 1 : Nat) : Int) := by rw [wrap_small (by omega) (by omega)]; omega
      rw [e1, e2, e3]
      have e4 : wrap64 (((10 * n : Nat) : Int) + (((s.get! i).toNat - 48 : Nat) : Int)) = ((10 * n + ((s.get! i).toNat - 48) : Nat) : Int) := by rw [wrap_small (by omega) (by omega)]; omega
      rw [e4]
      exact ih (i + 1) _ k hlt a1 a2 hg10
    · have hdf : isDig (s.get! i) = false := by simpa using hdg
      rw [if_pos (by rw [isDig_bt]; exact hdf)]
      simp [hdf]

theorem number_spec (s : ByteArray) (most : Nat) (hm : most ≤ 18) (k : Nat) (hk : 20 < k) : words_number.f k s (most : Int) = some (numS s.data.toList most) := by
  obtain ⟨k, rfl⟩ : ∃ m, k = m + 1 := ⟨k - 1, by omega⟩
  have hl : s.toList = s.data.toList := ByteArray.toList_eq s
  unfold words_number.f numS
  rw [hl]
  by_cases h0 : s.data.toList = []
  · rw [if_pos h0]
    simp only [words_number.j0, if_true]
    rw [if_pos (Or.inl h0)]
  · rw [if_neg h0]
    simp only [words_number.j0]
    rw [data_len]
    by_cases h1 : most < s.size
    · rw [if_pos (by rw [decide_eq_true_iff]; omega), if_pos (Or.inr h1)]
    · rw [if_neg (by rw [decide_eq_true_iff]; omega), if_neg (by rintro (h | h); exact h0 h; exact h1 h)]
      have := number_loop s (by omega) s.size 0 0 k (by omega) (by omega) (by omega) (by simp)
      simp only [List.drop_zero] at this
      exact this


theorem numS_bound (l : List UInt8) (most : Nat) (hm : most ≤ 18) : 0 ≤ (numS l most).1 ∧ (numS l most).1 < 1000000000000000000 := by
  unfold numS
  split
  · exact ⟨by simp, by simp⟩
  · rename_i h
    cases hn : numL l 0 with
    | none => exact ⟨by simp, by simp⟩
    | some m =>
      have h1 := numL_lt l 0 m hn
      have h2 : l.length ≤ 18 := by
        by_cases hh : most < l.length
        · exact absurd (Or.inr hh) h
        · omega
      have h3 : m < 1000000000000000000 := Nat.lt_of_lt_of_le h1 (by rw [Nat.zero_add, Nat.one_mul]; exact Nat.le_trans (Nat.pow_le_pow_right (by omega) h2) (by decide))
      simp only
      omega

/-- the loop of the reference's number. -/
theorem rnumber_loop (s : ByteArray) (hs : s.size ≤ 18) : ∀ (d i n k : Nat), i ≤ s.size → s.size - i = d → d < k → n < 10 ^ i →
    chicaneref36_number.l0 k s (n : Int) (i : Int) = some (match numL (s.data.toList.drop i) n with | some m => ((m : Int), true) | none => (0, false)) := by
  intro d
  induction d with
  | zero =>
    intro i n k hi hd hk hn
    obtain ⟨k, rfl⟩ : ∃ m, k = m + 1 := ⟨k - 1, by omega⟩
    have : i = s.size := by omega
    subst this
    have hz : s.data.toList.drop s.size = [] := List.drop_of_length_le (by rw [data_len]; exact Nat.le_refl _)
    simp only [chicaneref36_number.l0]
    rw [if_neg (by omega), hz]
    rfl
  | succ d ih =>
    intro i n k hi hd hk hn
    obtain ⟨k, rfl⟩ : ∃ m, k = m + 1 := ⟨k - 1, by omega⟩
    have hlt : i < s.size := by omega
    have a1 : s.size - (i + 1) = d := by omega
    have a2 : d < k := by omega
    simp only [chicaneref36_number.l0]
    rw [if_pos (by omega), if_pos (by omega), bt_get s i hlt, bt_drop s i hlt]
    have h256 : (s.get! i).toNat < 256 := (s.get! i).toNat_lt
    simp only [numL]
    by_cases hdg : isDig (s.get! i) = true
    · have hd2 := hdg
      simp only [isDig, Bool.and_eq_true, decide_eq_true_eq] at hd2
      rw [if_neg (by omega), if_neg (by omega)]
      simp only [hdg, if_true]
      have hp : n < 100000000000000000 := Nat.lt_of_lt_of_le hn (Nat.le_trans (Nat.pow_le_pow_right (by omega) (show i ≤ 17 by omega)) (by decide))
      have hg10 : 10 * n + ((s.get! i).toNat - 48) < 10 ^ (i + 1) := by rw [Nat.pow_succ]; omega
      clear hn
      have e1 : wrap64 (10 * (n : Int)) = ((10 * n : Nat) : Int) := by rw [wrap_small (by omega) (by omega)]; omega
      have e2 : (((s.get! i).toNat : Int) - 48) % 256 = (((s.get! i).toNat - 48 : Nat) : Int) := by omega
      have e3 : wrap64 ((i : Int) + 1) = ((i + 1 : Nat) : Int) := by rw [wrap_small (by omega) (by omega)]; omega
      rw [e1, e2, e3]
      have e4 : wrap64 (((10 * n : Nat) : Int) + (((s.get! i).toNat - 48 : Nat) : Int)) = ((10 * n + ((s.get! i).toNat - 48) : Nat) : Int) := by rw [wrap_small (by omega) (by omega)]; omega
      rw [e4]
      exact ih (i + 1) _ k hlt a1 a2 hg10
    · have hdf : isDig (s.get! i) = false := by simpa using hdg
      have hd2 := hdf
      simp only [isDig, Bool.and_eq_false_iff, decide_eq_false_iff_not] at hd2
      simp only [hdf, Bool.false_eq_true, if_false]
      by_cases hlo : ((s.get! i).toNat : Int) < 48
      · rw [if_pos hlo]
      · rw [if_neg hlo, if_pos (by omega)]

theorem rnumber_spec (s : ByteArray) (most : Nat) (hm : most ≤ 18) (k : Nat) (hk : 20 < k) : chicaneref36_number.f k s 1 (most : Int) = some (numS s.data.toList most) := by
  obtain ⟨k, rfl⟩ : ∃ m, k = m + 1 := ⟨k - 1, by omega⟩
  unfold chicaneref36_number.f numS
  have he : s.data.toList = [] ↔ s.size = 0 := by rw [← data_len, List.length_eq_zero_iff]
  rw [data_len]
  by_cases h0 : s.size = 0
  · rw [if_pos (by omega)]
    simp only [chicaneref36_number.j0, if_true]
    rw [if_pos (Or.inl (he.2 h0))]
  · rw [if_neg (by omega)]
    simp only [chicaneref36_number.j0]
    by_cases h1 : most < s.size
    · rw [if_pos (by rw [decide_eq_true_iff]; omega), if_pos (Or.inr h1)]
    · rw [if_neg (by rw [decide_eq_true_iff]; omega), if_neg (by rintro (h | h); exact h0 (he.1 h); exact h1 h)]
      have := rnumber_loop s (by omega) s.size 0 0 k (by omega) (by omega) (by omega) (by simp)
      simp only [List.drop_zero] at this
      exact this

theorem neg_num (l : List UInt8) : wrap64 (-(numS l 18).1) = -(numS l 18).1 := by
  have := numS_bound l 18 (by omega)
  exact wrap_small (by omega) (by omega)

theorem cutp_spec (s : ByteArray) : strings_CutPrefix.f s ⟨#[45]⟩ = some (if s.data.toList.head? = some 45 then (mkS s.data.toList.tail, true) else (s, false)) := by
  unfold strings_CutPrefix.f stringslite_CutPrefix.f stringslite_HasPrefix.f
  have e1 : ((⟨#[45]⟩ : ByteArray).size : Int) = 1 := rfl
  have e2 : (⟨#[45]⟩ : ByteArray).toList = [45] := by rw [ByteArray.toList_eq]
  rw [e1, e2]
  by_cases h : (s.size : Int) ≥ 1
  · rw [if_pos h, if_pos (by omega), if_pos (by omega)]
    have h0 : 0 < s.size := by omega
    have e3 : (s.extract 0 (1 : Int).toNat).toList = [s.get! 0] := by
      rw [ByteArray.toList_eq, extract_data' s 0, mkS_data]
      rw [bytes_get s 0 h0]
      rfl
    have e4 : s.data.toList = s.get! 0 :: s.data.toList.tail := by
      have := bytes_get s 0 h0
      simp only [List.drop_zero] at this
      rw [this]; simp
    rw [e3]
    have e5 : s.data.toList.head? = some (s.get! 0) := by rw [e4]; rfl
    rw [e5]
    simp only [Option.bind_some]
    by_cases h45 : s.get! 0 = 45
    · rw [if_pos (by simp [h45]), if_pos (by omega), if_pos (by omega)]
      simp only [Option.bind_some]
      rw [if_pos (by rw [h45])]
      have e6 : s.extract (1 : Int).toNat s.size = mkS s.data.toList.tail := by
        rw [extract_data' s _ s.size]
        congr 1
        rw [e4]
        simp only [List.tail_cons]
        show List.take (s.size - 1) s.data.toList.tail = _
        apply List.take_of_length_le
        rw [List.length_tail, data_len]
        exact Nat.le_refl _
      rw [e6]
    · rw [if_neg (by simp [h45]), if_neg (by intro hh; exact h45 (by injection hh))]
      rfl
  · rw [if_neg h]
    have : s.data.toList = [] := by rw [← List.length_eq_zero_iff, data_len]; omega
    rw [this]
    simp

theorem readWhole_spec (s : ByteArray) (k : Nat) (hk : 20 < k) : words_ReadWhole.f k s = some (rdW s.data.toList) := by
  unfold words_ReadWhole.f rdW
  rw [cutp_spec]
  by_cases h : s.data.toList.head? = some 45
  · rw [if_pos h, if_pos h]
    simp only [Option.bind_some]
    have := number_spec (mkS s.data.toList.tail) 18 (by omega) k hk
    rw [show ((18 : Nat) : Int) = 18 from rfl] at this
    rw [this, mkS_data]
    simp only [Option.bind_some, if_true, neg_num]
    split <;> rfl
  · rw [if_neg h, if_neg h]
    simp only [Option.bind_some]
    have := number_spec s 18 (by omega) k hk
    rw [show ((18 : Nat) : Int) = 18 from rfl] at this
    rw [this]
    simp only [Option.bind_some, Bool.false_eq_true, if_false]
    split <;> rfl

theorem sign_spec (s : ByteArray) : chicaneref36_sign.f s = some (if s.data.toList.head? = some 45 then (mkS s.data.toList.tail, true) else (s, false)) := by
  unfold chicaneref36_sign.f
  by_cases h : (s.size : Int) > 0
  · have h0 : 0 < s.size := by omega
    have e4 : s.data.toList = s.get! 0 :: s.data.toList.tail := by
      have := bytes_get s 0 h0
      simp only [List.drop_zero] at this
      rw [this]; simp
    have e5 : s.data.toList.head? = some (s.get! 0) := by rw [e4]; rfl
    have hb := bt_get s 0 h0
    rw [show ((0 : Nat) : Int) = 0 from rfl] at hb
    rw [if_pos h, if_pos (by omega), hb, e5]
    by_cases h45 : s.get! 0 = 45
    · rw [if_pos (by rw [h45]; rfl), if_pos (by omega), if_pos (by rw [h45])]
      have e6 : s.extract 1 s.size = mkS s.data.toList.tail := by
        rw [extract_data' s _ s.size]
        congr 1
        rw [e4]
        simp only [List.tail_cons]
        show List.take (s.size - 1) s.data.toList.tail = _
        apply List.take_of_length_le
        rw [List.length_tail, data_len]
        exact Nat.le_refl _
      rw [e6]
    · rw [if_neg (by intro hh; apply h45; apply UInt8.toNat_inj.1; have : (45 : UInt8).toNat = 45 := rfl; omega), if_neg (by intro hh; exact h45 (by injection hh))]
  · rw [if_neg h]
    have : s.data.toList = [] := by rw [← List.length_eq_zero_iff, data_len]; omega
    rw [this]
    simp

theorem rreadWhole_spec (s : ByteArray) (k : Nat) (hk : 20 < k) : chicaneref36_ReadWhole.f k s = some (rdW s.data.toList) := by
  unfold chicaneref36_ReadWhole.f rdW
  rw [sign_spec]
  by_cases h : s.data.toList.head? = some 45
  · rw [if_pos h, if_pos h]
    simp only [Option.bind_some]
    have := rnumber_spec (mkS s.data.toList.tail) 18 (by omega) k hk
    rw [show ((18 : Nat) : Int) = 18 from rfl] at this
    rw [this, mkS_data]
    simp only [Option.bind_some, if_true, neg_num]
    split <;> rfl
  · rw [if_neg h, if_neg h]
    simp only [Option.bind_some]
    have := rnumber_spec s 18 (by omega) k hk
    rw [show ((18 : Nat) : Int) = 18 from rfl] at this
    rw [this]
    simp only [Option.bind_some, Bool.false_eq_true, if_false]
    split <;> rfl

/-- words.ReadWhole. -/
theorem readWhole_any (s : ByteArray) (w : World) :
    Calls Tryd.prog 20 #[.string s] w fun e w' => e = .returned (.tuple #[.int .i64 (rdW s.data.toList).1, .int .i64 (rdW s.data.toList).2]) ∧ Drawn0 w w' :=
  words_ReadWhole.calls 21 s _ _ w (readWhole_spec s 21 (by omega))

end Go.Proofs.YtbhbpopebmdemaaDoor
