import Derived.Test.YtbhbpopebmdemaaDoorE2
import Derived.Test.YtbhbpopebmdemaaDoorC1
namespace Go.Proofs.YtbhbpopebmdemaaDoor
open Go.RowKit Go.Proofs.YtbhbpopebmdemaaDoorW.PrintWords Go.Proofs.YtbhbpopebmdemaaDoorW.PrintLast Go.Proofs.YtbhbpopebmdemaaDoorW.PrintMore
open ChiPure Go.Lib Go.Shelf
set_option linter.unusedVariables false
set_option linter.unusedSimpArgs false
attribute [local go_sem high] PA.eqA35

def x9 : Ctl := ⟨9, 0, 0, 0, 1, true, false⟩
def awS : ByteArray := ⟨#[115, 99, 114, 105, 112, 116, 10, 100, 111, 32, 51, 32, 57, 32, 48, 32, 48, 32, 48, 32, 49, 32, 97, 117, 116, 111, 10, 101, 110, 100, 10]⟩
theorem aw1 : printS [x9, x9, x9] = (awS, 0) := by kernel_rfl
theorem aw2 : parseR awS = ([x9, x9, x9], 0, 0) := by kernel_rfl
theorem aw3 : parseR ⟨#[]⟩ = ([], 20, 1) := by kernel_rfl

/-- a block of controls is a row that is read. -/
theorem F_block {w : World} {g : Nat} {xs : List Ctl} (n : Nat) (hn : xs.length = n) (h : w.heap[g]? = some (.cells (xs.flatMap ctlC).toArray 35 (0, 0))) (hmax : n ≤ 4294967296) : Kd.F PA.k35 w (fun k => k < w.heap.size) (some ⟨g, 0, none⟩) n xs := by
  subst hn
  have hlt : g < w.heap.size := (Array.getElem?_eq_some_iff.1 h).1
  have ho : w.ownsRow 0 35 7 (.slice (some ⟨g, 0, none⟩) xs.length xs.length) xs.length (xs.flatMap ctlC) := by
    refine ⟨flat_len xs, .inr ⟨g, xs.length, (xs.flatMap ctlC).toArray, rfl, Nat.zero_le _, h, Nat.le_refl _, by unfold maxLen; omega, by rw [List.size_toArray]; exact flat_len xs, ?_⟩⟩
    rw [List.toList_toArray]
    exact List.take_of_length_le (by rw [flat_len]; exact Nat.le_refl _)
  exact Kd.F_mono (Kd.R_F (Kd.R_bound (R_of_flat ho))) (fun k hk => hk.2.2.1)

set_option maxRecDepth 100000 in
set_option maxHeartbeats 2000000 in
theorem awake_any (m : Int) (w : World) (hm : w.cell? ⟨2, 0, none⟩ = some (.int .i64 m)) :
    Calls Tryd.prog 13 #[] w fun e w' => e = .returned (.bool true) ∧ Below w.heap.size w w' := by
  have hu35 := Tryd.underlying35
  have h2 : 2 < w.heap.size := by
    obtain ⟨o, ho, _⟩ := cells_of_cell hm
    exact (Array.getElem?_eq_some_iff.1 ho).1
  have n1 := World.alloc_heap_new w (.cells (ctlC x9).toArray 35)
  have n2 := World.alloc_heap_new (w.alloc (.cells (ctlC x9).toArray 35)) (.cells ([x9, x9, x9].flatMap ctlC).toArray 35)
  have b0 : Below w.heap.size w ((w.alloc (.cells (ctlC x9).toArray 35)).alloc (.cells ([x9, x9, x9].flatMap ctlC).toArray 35)) := ((Below.refl _ w).alloc (Nat.le_refl _) _).alloc (by simp) _
  have n3 := (Below.heap_alloc (w.alloc (.cells (ctlC x9).toArray 35)) (.cells ([x9, x9, x9].flatMap ctlC).toArray 35) w.heap.size (by simp)).trans n1
  rw [World.size_alloc] at n2
  have hF0 := F_block (xs := [x9, x9, x9]) 3 rfl n2 (by decide)
  have hp := print_any (some ⟨w.heap.size + 1, 0, none⟩) 3 [x9, x9, x9] _ (Nat.le_refl _) hF0
  rw [aw1] at hp
  clear n1 n2 hF0
  go_enter Tryd.func13, Tryd.ntmps13
  go_wp2_with fail
  refine hp.mono ?_
  rintro e w1 ⟨rfl, hb1⟩
  clear hp
  have hbw1 : Below w.heap.size w w1 := b0.trans (hb1.mono b0.size)
  have hc1 : w1.heap[w.heap.size]? = some (.cells (ctlC x9).toArray 35 (0, 0)) := (hb1.block _ (by rw [World.size_alloc, World.size_alloc]; omega)).trans n3
  clear n3 b0 hb1
  have hp := parse_any awS m w1 (by decide) ((hbw1.cell h2).trans hm)
  unfold ParsePost at hp
  rw [aw2] at hp
  dsimp only
  go_wp2_with fail
  refine hp.mono ?_
  rintro e w2 ⟨v, rfl, hR, hb2⟩
  clear hp
  have hbw2 : Below w.heap.size w w2 := hbw1.trans (hb2.mono hbw1.size)
  have hc2 : w2.heap[w.heap.size]? = some (.cells (ctlC x9).toArray 35 (0, 0)) := (hb2.block _ (Array.getElem?_eq_some_iff.1 hc1).1).trans hc1
  obtain ⟨Av, cv, rfl, hcv, hCv⟩ := Kd.R_reads hR
  have hFv := Kd.F_bound (Kd.R_F hR)
  clear hR hc1 hCv hb2 hbw1
  have hp := parse_any ⟨#[]⟩ m w2 (by decide) ((hbw2.cell h2).trans hm)
  unfold ParsePost at hp
  rw [aw3] at hp
  dsimp only
  go_wp2_with fail
  refine hp.mono ?_
  rintro e w3 ⟨v3, rfl, hR, hb3⟩
  clear hp
  obtain ⟨A3, c3, rfl, _⟩ := Kd.R_reads hR
  have hbw3 : Below w.heap.size w w3 := hbw2.trans (hb3.mono hbw2.size)
  have hc3 : w3.heap[w.heap.size]? = some (.cells (ctlC x9).toArray 35 (0, 0)) := (hb3.block _ (Array.getElem?_eq_some_iff.1 hc2).1).trans hc2
  have hC3 := Kd.F_now (Kd.F_below hFv hb3)
  obtain ⟨ad, rfl, x0, x1, x2, x3, x4, x5, x6⟩ := PA.at_T35 hC3 2 (by decide) (by decide)
  obtain ⟨y0, y1, y2, y3, y4, y5, y6⟩ := CtlAt.of_block (x := x9) hc3
  have e9 : PA.rd_T35 [x9, x9, x9] 2 = ⟨9, 0, 0, 0, 1, true, false⟩ := rfl
  rw [e9] at x0 x1 x2 x3 x4 x5 x6
  unfold x9 at y0 y1 y2 y3 y4 y5 y6
  dsimp only at x0 x1 x2 x3 x4 x5 x6 y0 y1 y2 y3 y4 y5 y6
  rw [show (2 : Int).toNat * 7 = 14 from rfl] at x0 x1 x2 x3 x4 x5 x6
  have e14 : ad.add 14 = ⟨ad.block, ad.off + 14, none⟩ := by unfold Addr.add; rw [if_neg (by decide)]
  simp only [e14, Nat.add_assoc, Nat.reduceAdd] at x0 x1 x2 x3 x4 x5 x6
  clear e14
  clear hR hb3 hFv hC3 hc2 hc3 hbw2
  unfold awS
  dsimp only [List.length_cons, List.length_nil]
  go_wp2_with fail
  go_quiet (fail)
  go_wp2
  go_ret
  exact ⟨rfl, pw_below_drewN hbw3 _⟩
end Go.Proofs.YtbhbpopebmdemaaDoor
