import Derived.Test.YtbhbpopebmdemaaDoorB5
import Derived.Laws.CopyOwn
namespace Go.Proofs.YtbhbpopebmdemaaDoor
open Go.RowKit Go.Proofs.YtbhbpopebmdemaaDoorW.PrintWords Go.Proofs.YtbhbpopebmdemaaDoorW.PrintLast Go.Proofs.YtbhbpopebmdemaaDoorW.PrintMore
open ChiPure Go.Lib Go.Shelf
set_option linter.unusedVariables false
set_option linter.unusedSimpArgs false

/-- copy into a row of the call's own, elements of any size. -/
theorem run_copy_rowN {P : Program} (w : World) (dT sT ty elem : TypeId) (sz g o dLen dCap : Nat) (a : Addr) (sLen sCap : Nat) (cur : Array Value) (t : TypeId) (cs : List Value)
    (hu : P.underlying dT = some (.slice elem)) (hs : (P.info? elem).map (·.size) = some sz)
    (hg : w.heap[g]? = some (.cells cur t (0, 0))) (hn : cs.length = Nat.min sLen dLen * sz)
    (hsrc : ∀ j v, cs[j]? = some v → w.cell? (a.add j) = some v) (hfit : o + cs.length ≤ cur.size) (h1 : ∀ v ∈ cs, v.oneCell' = true) :
    (Builtin.copy_ #[dT, sT] ty #[.slice (some ⟨g, o, none⟩) dLen dCap, .slice (some a) sLen sCap]).run P w =
      .ok (goInt (Nat.min sLen dLen)) (w.setRow g (cur.toList.take o ++ cs ++ cur.toList.drop (o + cs.length)).toArray) := by
  have hl := run_loadCells_list (P := P) w a cs hsrc
  have hst := run_storeCells_at P g o t cs 0 cur w hg (by simpa using hfit) h1
  cases hq : P.info? elem with
  | none => simp [hq] at hs
  | some i =>
    have hi : i.size = sz := by simpa [hq] using hs
    simp [Builtin.copy_, run_underlying hu, Builtin.lenOf, Builtin.firstCells, sizeOf, typeInfo, hq, hi, ← hn, hl, hst]

theorem copy_ex {P : Program} (w : World) (dT sT elem : TypeId) (sz g o dLen dCap : Nat) (a : Addr) (sLen sCap : Nat) (cur : Array Value) (t : TypeId) (cs : List Value)
    (hu : P.underlying dT = some (.slice elem)) (hs : (P.info? elem).map (·.size) = some sz)
    (hg : w.heap[g]? = some (.cells cur t (0, 0))) (m : Nat) (hm : m = min sLen dLen) (hn : cs.length = m * sz)
    (hsrc : ∀ j v, cs[j]? = some v → w.cell? (a.add j) = some v) (hfit : o + cs.length ≤ cur.size) (h1 : ∀ v ∈ cs, v.oneCell' = true) :
    ∃ W1 : World, W1.heap[g]? = some (.cells (cur.toList.take o ++ cs ++ cur.toList.drop (o + cs.length)).toArray t (0, 0)) ∧ (∀ B w0, Below B w0 w → B ≤ g → Below B w0 W1) ∧
      ∀ ty, (Builtin.copy_ #[dT, sT] ty #[.slice (some ⟨g, o, none⟩) dLen dCap, .slice (some a) sLen sCap]).run P w = .ok (.int .i64 m) W1 := by
  subst hm
  exact ⟨_, setRow_heap w g _ _ t _ hg, fun B w0 hb hB => below_setRow hb hB _, fun ty => run_copy_rowN w dT sT ty elem sz g o dLen dCap a sLen sCap cur t cs hu hs hg hn hsrc hfit h1⟩

/-- the same cells, k times. -/
def repC (x : List Value) (k : Nat) : List Value := (List.replicate k x).flatten
theorem repC_length (x : List Value) (k : Nat) : (repC x k).length = k * x.length := by simp [repC]
theorem repC_add (x : List Value) (k m : Nat) : repC x (k + m) = repC x k ++ repC x m := by
  unfold repC; rw [← List.replicate_append_replicate, List.flatten_append]
theorem repC_one (x : List Value) : repC x 1 = x := by simp [repC]
theorem repC_mem {x : List Value} {k : Nat} {v : Value} (h : v ∈ repC x k) : v ∈ x := by
  unfold repC at h
  rw [List.mem_flatten] at h
  obtain ⟨l, hl, hv⟩ := h
  rw [List.mem_replicate] at hl
  rwa [hl.2] at hv

theorem info35 : (Tryd.prog.info? 35).map (fun i => (i.zero, i.size, i.bytes)) = some (some (.agg #[.int .i64 0, .int .i64 0, .int .i64 0, .int .i64 0, .int .i64 0, .bool false, .bool false]), 7, 48) := by kernel_rfl

set_option maxRecDepth 100000 in
set_option maxHeartbeats 1000000 in
theorem repeat_any (b n c : Nat) (x : List Value) (w : World) (hx : x.length = 7) (hn1 : 1 ≤ n) (hn2 : n ≤ 16777216) (h1 : ∀ v ∈ x, v.oneCell' = true) (hc : ∀ j v, x[j]? = some v → w.cell? ⟨b, j, none⟩ = some v) :
    Calls Tryd.prog 34 #[.slice (some ⟨b, 0, none⟩) 1 1, .int .i64 n] w fun e w' => e = .returned (.slice (some ⟨w.heap.size, 0, none⟩) n n) ∧
      w'.heap[w.heap.size]? = some (.cells (repC x n).toArray 35 (0, 0)) ∧ Below w.heap.size w w' := by
  have hmul := Tryd.bits_Mul 1 n (by omega) (by omega) w
  have e1 : (1 * n / 18446744073709551616 : Nat) = 0 := by omega
  have e2 : (1 * n % 18446744073709551616 : Nat) = n := by omega
  rw [e1, e2] at hmul
  clear e1 e2
  obtain ⟨i0, hi, hz0, hz1, hz2⟩ := info_parts info35
  have hmk := fun wx : World => run_make (P := Tryd.prog) wx 23 35 i0 _ Tryd.underlying23 hi hz0 .i64 .i64 n n (by omega) (Int.le_refl _) (by rw [hz2]; omega) (by omega)
  rw [show ((1 : Nat) : Int) = 1 from rfl, show ((0 : Nat) : Int) = 0 from rfl] at hmul
  simp only [Int.toNat_natCast, hz1] at hmk
  obtain ⟨W1, hW1, hB1, hcp⟩ := copy_ex (P := Tryd.prog) (w.alloc (.cells (madeCells #[.int .i64 0, .int .i64 0, .int .i64 0, .int .i64 0, .int .i64 0, .bool false, .bool false] (n * 7)) 35)) 23 23 35 7 w.heap.size 0 n n ⟨b, 0, none⟩ 1 1 _ 35 x
    Tryd.underlying23 (by kernel_rfl) (blk_new _ _) 1 (by omega) (by omega) (fun j v hj => by rw [add_plain]; exact pw_cell_below ((Below.refl _ _).alloc (Nat.le_refl _) _) (hc j v hj)) (by simp [madeCells, hx]; omega) h1
  have hB1 := hB1 _ _ ((Below.refl w.heap.size w).alloc (Nat.le_refl _) _) (Nat.le_refl _)
  obtain ⟨cur0, hc0, hl0, ht0⟩ : ∃ cur : List Value, W1.heap[w.heap.size]? = some (.cells cur.toArray 35 (0, 0)) ∧ cur.length = n * 7 ∧ cur.take (1 * 7) = repC x 1 := by
    refine ⟨_, hW1, ?_, ?_⟩
    · simp [madeCells, hx]; omega
    · rw [repC_one]; simp [hx]
  clear hW1
  have hn0 : ¬ ((n : Int) < 0) := by omega
  have H0 := Lib.hid hc0
  have H1 := Lib.hid hl0
  have H2 := Lib.hid ht0
  have H3 := Lib.hid hc
  have H4 := Lib.hid hx
  have H5 := Lib.hid h1
  clear hc0 hl0 ht0 hc hx h1
  go_enter Tryd.func34, Tryd.ntmps34
  go_wp2_with (go_at_call 75; refine hmul.mono ?_; rintro e w' ⟨rfl, rfl⟩)
  go_loopw [8] (fun v wr => ∃ (k : Nat) (cur : List Value), 1 ≤ k ∧ k ≤ n ∧ v = .int .i64 k ∧ Hid (wr.heap[w'.heap.size]? = some (.cells cur.toArray 35 (0, 0))) ∧ Hid (cur.length = n * 7) ∧ Hid (cur.take (k * 7) = repC x k) ∧ Below w'.heap.size w' wr) (fun v _ => n - (intOf v).toNat)
  case atStart => exact ⟨1, cur0, Nat.le_refl _, hn1, rfl, H0, H1, H2, hB1⟩
  case round =>
    clear hmk hcp hmul
    obtain ⟨k, cur, hk1, hkn, rfl, G0, G1, G2, hB⟩ := hrel
    by_cases hlt : k < n
    · obtain ⟨W2, hW2, hB2, hcp⟩ := copy_ex (P := Tryd.prog) wr.drew 23 23 35 7 w'.heap.size (k * 7) (n - k) (n - k) ⟨w'.heap.size, 0, none⟩ k n cur.toArray 35 (repC x (min k (n - k)))
        Tryd.underlying23 (by kernel_rfl) (blk_drew G0.out) (min k (n - k)) rfl (by rw [repC_length, H4.out])
        (fun j v hj => by
          have hj2 := (List.getElem?_eq_some_iff.1 hj).1
          rw [repC_length, H4.out] at hj2
          rw [add_plain, blk_cell (blk_drew G0.out)]
          have e1 : repC x k = repC x (min k (n - k)) ++ repC x (k - min k (n - k)) := by rw [← repC_add]; congr 1; omega
          have e2 : cur[j]? = (repC x k)[j]? := by
            rw [← G2.out, List.getElem?_take_of_lt]
            have : min k (n - k) * 7 ≤ k * 7 := Nat.mul_le_mul_right 7 (by omega)
            omega
          rw [List.getElem?_toArray, e2, e1, List.getElem?_append_left (by rw [repC_length, H4.out]; exact hj2)]
          exact hj)
        (by rw [repC_length, H4.out, List.size_toArray, G1.out, ← Nat.add_mul]; exact Nat.mul_le_mul_right 7 (by omega)) (fun v hv => H5.out v (repC_mem hv))
      have hB2 := hB2 _ _ hB.drew (Nat.le_refl _)
      obtain ⟨cur2, hc2, hl2, ht2⟩ : ∃ cur2 : List Value, Hid (W2.heap[w'.heap.size]? = some (.cells cur2.toArray 35 (0, 0))) ∧ Hid (cur2.length = n * 7) ∧ Hid (cur2.take ((k + min k (n - k)) * 7) = repC x (k + min k (n - k))) := by
        have hk7 : k * 7 ≤ cur.length := by rw [G1.out]; exact Nat.mul_le_mul_right 7 hkn
        have hm7 : min k (n - k) * 7 + k * 7 ≤ n * 7 := by rw [← Nat.add_mul]; exact Nat.mul_le_mul_right 7 (by omega)
        refine ⟨_, Lib.hid hW2, Lib.hid ?_, Lib.hid ?_⟩
        · have hl := G1.out
          simp only [List.length_append, List.length_take, List.length_drop, repC_length, H4.out]
          omega
        · rw [repC_add, ← G2.out, List.take_append_of_le_length, List.take_of_length_le]
          · simp only [List.length_append, List.length_take, repC_length, H4.out, Nat.add_mul]; omega
          · simp only [List.length_append, List.length_take, repC_length, H4.out, Nat.add_mul]; omega
      clear hW2
      have hne : ¬ n = k := by omega
      have hge : (k : Int) ≤ (n : Int) := by omega
      have hge0 : (0 : Int) ≤ (k : Int) := by omega
      generalize hm : min k (n - k) = m at *
      have hm1 : 1 ≤ m := by omega
      have hm2 : k + m ≤ n := by omega
      have HM := Lib.hid hm
      clear hm
      go_wp2
      go_region
      go_wp2
      go_roundw
      case rel => exact ⟨k + m, cur2, by omega, hm2, by go_num, hc2, hl2, ht2, hB2⟩
      case measure => simp [intOf]; omega
    · go_wp2
      go_ret
      obtain rfl : k = n := by omega
      refine ⟨rfl, ?_, hB⟩
      rw [← G2.out, List.take_of_length_le (by rw [G1.out]; exact Nat.le_refl _)]
      exact G0.out
end Go.Proofs.YtbhbpopebmdemaaDoor
