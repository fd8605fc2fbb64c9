import Derived.Test.YtbhbpopebmdemaaDoorB6
namespace Go.Proofs.YtbhbpopebmdemaaDoor
open Go.RowKit Go.Proofs.YtbhbpopebmdemaaDoorW.PrintWords Go.Proofs.YtbhbpopebmdemaaDoorW.PrintLast Go.Proofs.YtbhbpopebmdemaaDoorW.PrintMore
open ChiPure Go.Lib Go.Shelf
set_option linter.unusedVariables false
set_option linter.unusedSimpArgs false

theorem lnl_len : ∀ (l w : List UInt8), (lnl w l).length ≤ l.length + 1
  | [], w => by unfold lnl; split <;> simp
  | b :: l, w => by
    unfold lnl
    split
    · have := lnl_len l []; simp; omega
    · have := lnl_len l (w ++ [b]); simp; omega
theorem lnl_size : ∀ (l w : List UInt8), ∀ x ∈ lnl w l, x.length ≤ w.length + l.length
  | [], w, x, hx => by
    unfold lnl at hx
    split at hx
    · cases hx
    · simp at hx; subst hx; simp
  | b :: l, w, x, hx => by
    unfold lnl at hx
    split at hx
    · cases hx with
      | head => simp
      | tail _ h => have := lnl_size l [] x h; simp at this ⊢; omega
    · have := lnl_size l (w ++ [b]) x hx; simp at this ⊢; omega
theorem lns_len (s : ByteArray) : (lns s).length ≤ s.size + 1 := by
  unfold lns; rw [List.length_map]; have := lnl_len s.data.toList []; rw [data_len] at this; exact this
theorem lns_size (s : ByteArray) (k : Nat) (hk : k < (lns s).length) : ((lns s).getD k ByteArray.empty).size ≤ s.size := by
  rw [List.getD_eq_getElem?_getD, List.getElem?_eq_getElem hk, Option.getD_some]
  have h : (lns s)[k] ∈ lns s := List.getElem_mem hk
  generalize (lns s)[k] = x at h
  unfold lns at h
  rw [List.mem_map] at h
  obtain ⟨y, hy, rfl⟩ := h
  have := lnl_size _ _ y hy
  rw [data_len] at this
  rw [mkS_size']
  simpa using this

/-- a book's lines out of the first k lines of a text. -/
def bkTo (L : List ByteArray) : Nat → List S107
  | 0 => []
  | k + 1 => bkTo L k ++ (if pcs (L.getD k ByteArray.empty) = [] then [] else [⟨(k : Int) + 1, pcs (L.getD k ByteArray.empty)⟩])
theorem bkTo_len (L : List ByteArray) : ∀ k, (bkTo L k).length ≤ k
  | 0 => Nat.le_refl _
  | k + 1 => by
    have := bkTo_len L k
    unfold bkTo
    split <;> simp <;> omega

theorem info107 : (Tryd.prog.info? 107).map (fun i => (i.zero, i.size, i.bytes)) = some (some (.agg #[.int .i64 0, .slice none 0 0]), 2, 32) := by kernel_rfl

set_option maxRecDepth 100000 in
set_option maxHeartbeats 1000000 in
/-- words.Open. -/
theorem open_any (s : ByteArray) (m : Int) (w : World) (hs : s.size < 4294967281) (hm : w.cell? ⟨2, 0, none⟩ = some (.int .i64 m)) :
    Calls Tryd.prog 28 #[.string s] w fun e w' => e = .returned (.pointer (some ⟨w.heap.size, 0, none⟩)) ∧ BK w' w.heap.size w'.heap.size (bkTo (lns s) (lns s).length) (lns s).length 0 0 0 ∧ Below w.heap.size w w' := by
  have hl1 := lns_len s
  have hlines := fun w1 h1 => lines_any s m w1 hs h1
  have hm2 := World.block_lt_of_cell? _ _ hm
  have HM := Lib.hid hm
  clear hm
  go_enter Tryd.func28, Tryd.ntmps28
  go_wp2_with fail
  refine (hlines _ (pw_cell_below ((Below.refl _ _).alloc (Nat.le_refl _) _) HM.out)).mono ?_
  rintro e W1 ⟨vL, rfl, hR, hB1⟩
  rw [World.size_alloc] at hR hB1
  obtain ⟨A, c, rfl, hc, hC⟩ := Kd.R_reads hR
  have hF := Kd.F_bound (Kd.R_F (Kd.R_bound hR))
  generalize hL : lns s = L at *
  clear hlines hR
  have HL := Lib.hid hL
  clear hL
  have hlt : L.length ≤ 4294967296 := by omega
  have HF := Lib.hid hF
  have HC := Lib.hid hC
  clear hF hC
  go_wp2_with fail
  go_loopw [12] (fun v wr => ∃ (k : Nat) (vb : Value), k ≤ L.length ∧ v = .int .i64 k ∧ Hid (wr.heap[w.heap.size]? = some (.cells #[vb, .int .i64 k, .int .i64 0, .int .i64 0, .int .i64 0] 105 (0, 0))) ∧
      Kd.R k107 107 wr W1.heap.size (fun j => W1.heap.size ≤ j) vb (bkTo L k) ∧ Below w.heap.size w wr ∧ W1.heap.size ≤ wr.heap.size ∧ Hid (∀ j, w.heap.size < j → j < W1.heap.size → wr.heap[j]? = W1.heap[j]?)) (fun v _ => L.length - (intOf v).toNat)
  case atStart =>
    refine ⟨0, .slice none 0 0, Nat.zero_le _, rfl, Lib.hid ?_, Kd.R_nil _ _ _ _ _, ?_, Nat.le_refl _, Lib.hid (fun j _ _ => rfl)⟩
    · exact blk_below (blk_new _ _) (by rw [World.size_alloc]; exact hB1)
    · exact ((Below.refl w.heap.size w).alloc (Nat.le_refl _) _).trans ⟨hB1.os, hB1.tape, hB1.output, by have := hB1.size; simp only [World.size_alloc] at this ⊢; omega, fun j hj => hB1.block j (by omega)⟩
  case round =>
    obtain ⟨k, vb, hk, rfl, hg, hRb, hBw, hS, hkeep⟩ := hrel
    by_cases hlk : k < L.length
    · obtain ⟨a, rfl, hcell⟩ : ∃ a, A = some a ∧ wr.cell? (a.add k) = some (.string (L.getD k ByteArray.empty)) := by
        obtain ⟨a, rfl, hx⟩ := Kd.at_string (Kd.F_now (Kd.F_step HF.out (fun j hj _ => hkeep.out j (by omega) (by omega)))) (k : Int) (by omega) (by omega)
        rw [Int.toNat_natCast] at hx
        exact ⟨a, rfl, hx⟩
      have hk0 : (0 : Int) ≤ (k : Int) := by omega
      have hkl : (k : Int) < (L.length : Int) := by omega
      have hsz : (L.getD k ByteArray.empty).size < 4294967281 := by
        have := lns_size s k (by rw [HL.out]; exact hlk)
        rw [HL.out] at this
        omega
      have hpc := pieces_any (L.getD k ByteArray.empty) m wr hsz (by rw [hBw.cell (by simpa using hm2)]; exact HM.out)
      generalize hy : L.getD k ByteArray.empty = y at *
      have HY := Lib.hid hy
      clear hy
      go_wp2_with fail
      refine hpc.mono ?_
      rintro e W2 ⟨vp, rfl, hRp, hB2⟩
      clear hpc hcell
      obtain ⟨A2, c2, rfl, hc2, hC2⟩ := Kd.R_reads hRp
      have hg2 := blk_below hg.out hB2
      have hRb2 := Kd.R_below hRb hB2
      have hBw2 := hBw.trans (hB2.mono hBw.size)
      have hkeep2 : Hid (∀ j, w.heap.size < j → j < W1.heap.size → W2.heap[j]? = W1.heap[j]?) := Lib.hid fun j h1 h2 => (hB2.block j (Nat.lt_of_lt_of_le h2 hS)).trans (hkeep.out j h1 h2)
      have hS2 : W1.heap.size ≤ W2.heap.size := Nat.le_trans hS hB2.size
      have q0 : W2.cell? ⟨w.heap.size, 0, none⟩ = some vb := by rw [blk_cell hg2]; rfl
      have q1 : W2.cell? ⟨w.heap.size, 1, none⟩ = some (.int .i64 k) := by rw [blk_cell hg2]; rfl
      have z0 := blk_frozen hg2 0
      have z1 := blk_frozen hg2 1
      have HG2 := Lib.hid hg2
      have hNS : w.heap.size < W1.heap.size := by have := hB1.size; simp only [World.size_alloc] at this; omega
      have hN2 := blk_lt hg2
      have hbk : bkTo L (k + 1) = bkTo L k ++ (if pcs y = [] then [] else [⟨(k : Int) + 1, pcs y⟩]) := by rw [bkTo, HY.out]
      have hbl := bkTo_len L k
      have hvb1 : ∀ j, vb.ownBlock = some j → j < wr.heap.size := by
        obtain ⟨_, inner, ho, _⟩ := hRb
        exact fun j hj => own_lt ho j hj
      have hvb2 : ∀ j, vb.ownBlock = some j → W1.heap.size ≤ j := hRb.1
      clear hg2 hg hkeep hRb hC2
      by_cases hps : pcs y = []
      · rw [if_pos hps, List.append_nil] at hbk
        have HBK := Lib.hid hbk
        clear hbk
        have hl0 : (pcs y).length = 0 := by rw [hps]; rfl
        clear hps hRp
        generalize (pcs y).length = n at *
        obtain rfl := hl0
        go_wp2
        go_roundw
        case rel => exact ⟨k + 1, vb, by omega, by go_num, Lib.hid (by have := blk_set HG2.out 1 (.int .i64 ((k : Int) + 1)); exact this), by rw [HBK.out]; exact Kd.R_far (p := ⟨w.heap.size, 1, none⟩) hRb2 (fun j hj => by simp; omega) _, hBw2.setCell (p := ⟨w.heap.size, 1, none⟩) (Nat.le_refl _) _, by simpa using hS2, Lib.hid (fun j h1 h2 => (Below.heap_setCell W2 ⟨w.heap.size, 1, none⟩ _ j (by simp; omega)).trans (hkeep2.out j h1 h2))⟩
        case measure => simp [intOf]; omega
      · rw [if_neg hps] at hbk
        have HBK := Lib.hid hbk
        clear hbk
        have hl0 : 0 < (pcs y).length := by rw [List.length_pos_iff]; exact hps
        have hl1 : ¬ ((pcs y).length : Int) ≤ 0 := by omega
        clear hps
        have hM := k107_mkM W2 W1.heap.size (fun j => wr.heap.size ≤ j ∧ j < W2.heap.size) ⟨(k : Int) + 1, pcs y⟩ (Kd.R_mono (Kd.R_lower (Kd.R_bound hRp) hS) (fun j hj => ⟨hj.2.1, hj.2.2.1⟩))
        have HM' := Lib.hid hM
        have HV1 := Lib.hid hvb1
        have HV2 := Lib.hid hvb2
        have HR := Lib.hid hRb2
        clear hM hvb1 hvb2 hRb2 hRp
        go_wp2_with (at_builtin; refine Kd.R_append k107 (w0 := W2) (W := W2) W1.heap.size rfl (.tmp 26) (.tmp 31) 103 107 (.agg #[.int .i64 0, .slice none 0 0]) 32 rfl Tryd.underlying103 info107 rfl (by decide) (by decide) vb (bkTo L k) ⟨(k : Int) + 1, pcs y⟩ [.int .i64 ((k : Int) + 1), .slice A2 (pcs y).length c2] (fun j => W1.heap.size ≤ j) (fun j => wr.heap.size ≤ j ∧ j < W2.heap.size) rfl rfl HM'.out ?c1 ?c2 HR.out (Below.refl _ _) hS2 ?c3 ?_; (case c1 => exact fun j hj => ⟨by omega, fun he => by have := HV1.out j he.symm; omega⟩); (case c2 => exact fun j hj => by omega); (case c3 => omega); intro v1 w1 hR1 hB1' hgr hat; obtain ⟨A3, c3, rfl⟩ := Kd.R_slice hR1; have hg3 := blk_grown HG2.out hgr (by intro he; have := HV2.out _ he.symm; omega); have q0' : w1.cell? ⟨w.heap.size, 0, none⟩ = some vb := (by rw [blk_cell hg3]; rfl); have q1' : w1.cell? ⟨w.heap.size, 1, none⟩ = some (.int .i64 k) := (by rw [blk_cell hg3]; rfl); have z0' := blk_frozen hg3 0; have z1' := blk_frozen hg3 1; have HG3 := Lib.hid hg3; clear hg3)
        go_roundw
        case rel =>
          rw [show (bkTo L k ++ [(⟨(k : Int) + 1, pcs y⟩ : S107)]).length = (bkTo L k).length + 1 from by simp] at hR1
          have hle : W2.heap.size ≤ w1.heap.size := hgr.4
          refine ⟨k + 1, .slice A3 ((bkTo L k).length + 1) c3, by omega, by go_num, Lib.hid (by have := blk_set (blk_set HG3.out 0 (.slice A3 ((bkTo L k).length + 1) c3)) 1 (.int .i64 ((k : Int) + 1)); exact this),
            by rw [HBK.out]; exact Kd.R_far (p := ⟨w.heap.size, 1, none⟩) (Kd.R_far (p := ⟨w.heap.size, 0, none⟩) hR1 (fun j hj => by simp; omega) _) (fun j hj => by simp; omega) _,
            ((hBw2.trans ⟨hB1'.os, hB1'.tape, hB1'.output, hB1'.size, fun j hj => hB1'.block j (by omega)⟩).setCell (p := ⟨w.heap.size, 0, none⟩) (Nat.le_refl _) _).setCell (p := ⟨w.heap.size, 1, none⟩) (Nat.le_refl _) _, by rw [size_set, size_set]; omega, Lib.hid (fun j h1 h2 => ?_)⟩
          rw [Below.heap_setCell _ ⟨w.heap.size, 1, none⟩ _ j (by simp; omega), Below.heap_setCell _ ⟨w.heap.size, 0, none⟩ _ j (by simp; omega)]
          exact (hB1'.block j h2).trans (hkeep2.out j h1 h2)
        case measure => simp [intOf]; omega
    · obtain rfl : k = L.length := by omega
      clear HF HC
      go_wp2
      go_ret
      have hNS : w.heap.size < W1.heap.size := by have := hB1.size; simp only [World.size_alloc] at this; omega
      obtain ⟨A3, c3, hv, hc3, hC3⟩ := Kd.R_reads hRb
      subst hv
      refine ⟨rfl, ?_, hBw⟩
      rw [HL.out]
      exact ⟨A3, c3, hg.out, hc3, Kd.F_mono (Kd.F_bound (Kd.R_F hRb)) (fun j hj => ⟨by omega, hj.2⟩), by omega, Nat.le_refl _⟩
end Go.Proofs.YtbhbpopebmdemaaDoor
