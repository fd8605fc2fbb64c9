import Derived.Test.YtbhbpopebmdemaaDoorM1
namespace Go.Proofs.YtbhbpopebmdemaaDoor
open Go.RowKit Go.Proofs.YtbhbpopebmdemaaDoorW.PrintWords Go.Proofs.YtbhbpopebmdemaaDoorW.PrintLast Go.Proofs.YtbhbpopebmdemaaDoorW.PrintMore
open ChiPure Go.Lib Go.Shelf
set_option linter.unusedVariables false
set_option linter.unusedSimpArgs false
attribute [local go_sem] Oper.semAt_some

theorem ix0 (a b c d e f : Int) (W : World) : (Instr.index 71 (.agg #[.int .i64 a, .int .i64 b, .int .i64 c, .int .i64 d, .int .i64 e, .int .i64 f]) (.int .i64 0)).run Tryd.prog W = .ok (.int .i64 a) W := by kernel_rfl
theorem ix1 (a b c d e f : Int) (W : World) : (Instr.index 71 (.agg #[.int .i64 a, .int .i64 b, .int .i64 c, .int .i64 d, .int .i64 e, .int .i64 f]) (.int .i64 1)).run Tryd.prog W = .ok (.int .i64 b) W := by kernel_rfl
theorem ix2 (a b c d e f : Int) (W : World) : (Instr.index 71 (.agg #[.int .i64 a, .int .i64 b, .int .i64 c, .int .i64 d, .int .i64 e, .int .i64 f]) (.int .i64 2)).run Tryd.prog W = .ok (.int .i64 c) W := by kernel_rfl
theorem ix3 (a b c d e f : Int) (W : World) : (Instr.index 71 (.agg #[.int .i64 a, .int .i64 b, .int .i64 c, .int .i64 d, .int .i64 e, .int .i64 f]) (.int .i64 3)).run Tryd.prog W = .ok (.int .i64 d) W := by kernel_rfl
theorem ix4 (a b c d e f : Int) (W : World) : (Instr.index 71 (.agg #[.int .i64 a, .int .i64 b, .int .i64 c, .int .i64 d, .int .i64 e, .int .i64 f]) (.int .i64 4)).run Tryd.prog W = .ok (.int .i64 e) W := by kernel_rfl
theorem ix5 (a b c d e f : Int) (W : World) : (Instr.index 71 (.agg #[.int .i64 a, .int .i64 b, .int .i64 c, .int .i64 d, .int .i64 e, .int .i64 f]) (.int .i64 5)).run Tryd.prog W = .ok (.int .i64 f) W := by kernel_rfl
attribute [local go_sem high] ix0 ix1 ix2 ix3 ix4 ix5

/-- what Print's loop keeps. -/
def PrI (w : World) (B b C : Nat) (pre : List (Ctl × Nat)) (W : World) : Prop :=
  Bld B b (headB ++ pre.flatMap lineB) W ∧ ((∃ u, Boxed W C 23 u) ∧ Below w.heap.size w W)
theorem PrI.own (w : World) (B b C N : Nat) (hN : w.heap.size ≤ N) : OwnFrom N (PrI w B b C) :=
  OwnFrom.and (Own.from (Bld.own B b (fun pre : List (Ctl × Nat) => headB ++ pre.flatMap lineB)) _) (OwnFrom.and (Own.from (boxAny_own C 23) _) (ownFrom_below (Nat.le_refl _) hN))
theorem PrI.set {w : World} {B b C : Nat} (hC : w.heap.size ≤ C) (pre : List (Ctl × Nat)) (W : World) (u : Value) (h : PrI w B b C pre W) : PrI w B b C pre (W.setCell ⟨C, 0, none⟩ u) := by
  obtain ⟨hb, ⟨q, hq⟩, hw⟩ := h
  exact ⟨hb.set hq u, ⟨u, hq.set u⟩, hw.setCell (p := ⟨C, 0, none⟩) hC u⟩

theorem below_grown {w w' : World} (h : w.grownBy w' none) : Below w.heap.size w w' := ⟨h.os, h.tape, h.output, h.size, fun k hk => h.block k hk (by simp)⟩

/-- what the loop over a line's numbers keeps. -/
def RowRel (b : Nat) (L : List UInt8) (fl : List Int) (W : World) (v32 : Value) (wr : World) : Prop :=
  ∃ i : Nat, i ≤ 6 ∧ v32 = .int .i64 (i : Int) ∧ Bld b b (L ++ (fl.take i).flatMap pcB) wr ∧ Fr b b W wr

theorem RowRel.next {b : Nat} {L : List UInt8} {fl : List Int} {W wr w1 w2 : World} {i : Nat} {x : Int} (hx : fl[i]? = some x) (hi : i < 6) (hF : Fr b b W wr) (h1 : Below wr.heap.size wr w1) (hb : b ≤ wr.heap.size)
    (h2 : Bld b b (L ++ (fl.take i).flatMap pcB ++ (⟨#[32]⟩ ++ wholeS x).data.toList) w2) (h3 : Below b w1 w2) (h4 : Lib.OthersKept 5 (some b) w1 w2) : RowRel b L fl W (.int .i64 ((i + 1 : Nat) : Int)) w2 := by
  refine ⟨i + 1, by omega, rfl, ?_, (hF.trans (Fr.below h1 hb)).trans ⟨h3, h4⟩⟩
  have e : (⟨#[32]⟩ ++ wholeS x).data.toList = pcB x := by
    simp [pcB]
  rw [e] at h2
  rw [List.take_add_one, hx]
  simpa [List.flatMap_append] using h2

theorem print_end {w W W8 : World} {b C : Nat} {pre : List (Ctl × Nat)} {x : Ctl × Nat} {L0 lx : List UInt8} {u : Value} {N : Nat} {act : Act} (hL0 : headB ++ pre.flatMap lineB = L0) (hx : lineB x = lx) (hu : Boxed W C 23 u) (hbC : b < C) (hwb : w.heap.size ≤ b)
    (hbl : Bld b b L0 W) (hB : Below w.heap.size w W) (hF : Fr b b W W8) (h8 : Bld b b (L0 ++ lx) W8) : cellPost N w.heap.size C (PrI w b b C) (pre ++ [x]) W Exit.normal act W8 := by
  have hu8 : Boxed W8 C 23 u := hF.cells hu (by decide) (by omega)
  refine ⟨hF.keeps hbl.block _, ⟨hF.1.mono hwb, hu8.trans hu.symm⟩, ?_, ⟨u, hu8⟩, hB.trans (hF.1.mono hwb)⟩
  rw [List.flatMap_append, ← List.append_assoc, hL0]
  simpa [hx] using h8

set_option maxRecDepth 100000 in
set_option maxHeartbeats 4000000 in
theorem print_any (A : Option Addr) (c : Nat) (xs : List Ctl) (w : World) (hc : xs.length ≤ c) (hF : Kd.F PA.k35 w (fun k => k < w.heap.size) A xs.length xs) :
    Calls Tryd.prog 14 #[.slice A xs.length c] w fun e w' => e = .returned (.tuple #[.string (printS xs).1, .int .i64 (printS xs).2]) ∧ Below w.heap.size w w' := by
  refine (callsIn_wide (n := 3)).1 ?_
  refine callsIn_of_wp_marks Tryd.func14 rfl trivial ?_ rfl
  simp only [Tryd.ntmps14, List.size_toArray, List.length_cons, List.length_nil, Nat.reduceAdd, Nat.reduceSub, Array.replicate_succ, Array.replicate_zero, List.push_toArray, List.append_toArray, List.nil_append, List.cons_append]
  unfold printS
  by_cases hbig : 16777216 < xs.length
  · rw [if_pos hbig]
    have hlt : decide ((16777216 : Int) < (xs.length : Int)) = true := by simp; omega
    gi_wp2_with fail
    exact ⟨_, results_tmp2 rfl _ _ _, rfl, Below.refl _ _⟩
  · rw [if_neg hbig]
    have hlt : decide ((16777216 : Int) < (xs.length : Int)) = false := by simp; omega
    have hcon := fun W (h : w.grownBy W none) => contains_any A c xs W _ (Kd.F_grown hF h (fun k _ => by simp)) hc
    have hc0 := hcon w (World.grownBy.refl _ _)
    clear hcon
    generalize hall : xs.all okC = bAll at *
    cases bAll with
    | false =>
      gi_wp2_with fail
      refine ⟨trivial, (callsIn_wide.2 hc0).mono ?_⟩
      rintro e w1 ⟨rfl, hg1⟩
      clear hc0
      gi_wp2_with fail
      exact ⟨_, results_tmp2 rfl _ _ _, rfl, below_grown hg1⟩
    | true =>
      gi_wp2_with fail
      refine ⟨trivial, (callsIn_wide.2 hc0).mono ?_⟩
      rintro e w1 ⟨rfl, hg1⟩
      clear hc0
      have hbw1 := below_grown hg1
      have hbl0 : Bld w1.heap.size w1.heap.size [] (w1.alloc (.cells #[.pointer none, .slice none 0 0] 63)) :=
        .inl ⟨Nat.le_refl _, .slice none 0 0, World.alloc_heap_new _ _, World.ownsRow_nil _ _ _ _, by simp [Value.ownBlock]⟩
      have hws0 := ws_any w1.heap.size w1.heap.size [] ⟨#[115, 99, 114, 105, 112, 116, 10]⟩ _ hbl0 (by decide) (by simp)
      have hruns := fun w : World => runs_any _ A xs.length c w rfl
      have hb0 := ((Below.refl w1.heap.size w1).alloc (Nat.le_refl _) (.cells #[.pointer none, .slice none 0 0] 63))
      gi_wp2_with fail
      refine ⟨trivial, (callsIn_wide.2 hws0).mono ?_⟩
      rintro e w2 ⟨rfl, hbl2, hb2, _⟩
      clear hws0
      gi_wp2_with fail
      refine ⟨trivial, (callsIn_wide.2 (hruns w2)).mono ?_⟩
      rintro e w3 ⟨rfl, rfl⟩
      clear hruns
      gi_wp2_with fail
      rw [List.nil_append] at hbl2
      have hsz2 := hb2.size
      rw [World.size_alloc] at hsz2
      have hbw2 : Below w.heap.size w w2 := hbw1.trans ((hb0.trans hb2).mono hbw1.size)
      have bN := Boxed.new w2 23 (.slice A xs.length c)
      have hB0 : Below w.heap.size w (w2.alloc (.cells #[.slice A xs.length c] 23)) := hbw2.alloc hbw2.size _
      have hseq := runs_seq w.heap.size w2.heap.size A c xs _ hbw2.size bN hc (Kd.F_below hF hB0) 2 (by omega)
      have hbl3 : Bld w1.heap.size w1.heap.size headB (w2.alloc (.cells #[.slice A xs.length c] 23)) := hbl2.below ((Below.refl _ w2).alloc (Nat.le_refl _) _)
      have hszw := hbw1.size
      have hbC : w1.heap.size < w2.heap.size := by omega
      generalize w1.heap.size = b at *
      generalize w2.heap.size = C at *
      clear hbl2 hbl0 hb2 hb0 hbw1 hg1
      refine wpIn_rangeFunc_cellH rfl (by omega) (gf := 83) (lb := #[.pointer (some ⟨C, 0, none⟩)]) rfl trivial (enters_of Tryd.func83 (by kernel_rfl) rfl) hseq (by have := bN.lt; simp at this ⊢; omega) bN.lt (fun _ => rfl)
        (PrI w b b C) (PrI.own _ _ _ _ _ hB0.size) (fun pre W u h => PrI.set (by omega) pre W u h)
        ⟨by simpa using hbl3, ⟨_, bN⟩, hB0⟩
        (fun x a' W => ∃ cb, W.heap[cb]? = some (.cells #[.int .i64 x.1.f0, .int .i64 x.1.f1, .int .i64 x.1.f2, .int .i64 x.1.f3, .int .i64 x.1.f4, .bool x.1.f5, .bool x.1.f6] 35 (0, 0)) ∧ w.heap.size ≤ cb ∧
          a' = { tmps := #[.slice A xs.length c, undef, .string { data := #[] }, .int .i64 0, .pointer (some ⟨b, 0, none⟩), .pointer (some ⟨cb, 0, none⟩), .int .i64 (x.2 : Int), undef, undef, .slice A xs.length c, .int .i64 (xs.length : Int), .bool false, .slice A xs.length c, .bool false, .tuple #[.int .i64 7, .nilIface], .slice A xs.length c, .func (.func 83) #[] #[.pointer (some ⟨C, 0, none⟩)], ctlV x.1, .int .i64 (x.2 : Int), undef, undef, undef, undef, undef, undef, undef, undef, undef, undef, undef, undef, undef, undef, undef, undef, undef, undef, undef, undef, undef, undef, undef, undef, undef, undef, undef, undef, undef, undef], defers := [] })
        ?hax ?assign ?body ?done
      case hax =>
        rintro x a' s X Y row ⟨cb, h1, h2, h3⟩ hg hr
        refine ⟨cb, (hg.block cb (Array.getElem?_eq_some_iff.1 h1).1 (fun e => ?_)).trans h1, h2, h3⟩
        obtain ⟨_, o, ho, hoc⟩ := hr cb e.symm
        rw [h1] at ho
        cases ho
        cases hoc
      case assign =>
        intro l pre x W K hI hK
        have hbW : w.heap.size ≤ W.heap.size := hI.2.2.size
        have hnew := World.alloc_heap_new W (.cells #[.int .i64 x.1.f0, .int .i64 x.1.f1, .int .i64 x.1.f2, .int .i64 x.1.f3, .int .i64 x.1.f4, .bool x.1.f5, .bool x.1.f6] 35)
        have hbelow := (Below.refl W.heap.size W).alloc (Nat.le_refl _) (.cells #[.int .i64 x.1.f0, .int .i64 x.1.f1, .int .i64 x.1.f2, .int .i64 x.1.f3, .int .i64 x.1.f4, .bool x.1.f5, .bool x.1.f6] 35)
        have hu35 := Tryd.underlying35
        have hK2 := hK _ _ ((KeepsOthers.alloc W _).from _) ⟨hbelow.mono hbW, hbelow.block C (by obtain ⟨_, ⟨u, hu⟩, _⟩ := hI; exact hu.lt)⟩ ⟨hI.1.below hbelow, (by obtain ⟨_, ⟨u, hu⟩, _⟩ := hI; exact ⟨u, hu.alloc _⟩), hI.2.2.trans (hbelow.mono hbW)⟩ ⟨_, hnew, hbW, rfl⟩
        unfold runEnc
        unfold ctlV at hK2 ⊢
        clear hK
        gi_wp2_with fail
        exact hK2
      case body =>
        rintro l pre x rest a' W hxs ⟨hbl, ⟨u, hu⟩, hB⟩ ⟨cb, hcb, hcbw, rfl⟩
        have hmem : x ∈ runsL xs := by rw [hxs]; simp
        obtain ⟨hm1, hm2⟩ := runsL_mem hmem
        have hokx : okC x.1 = true := by rw [List.all_eq_true] at hall; exact hall _ hm1
        have hpre : pre.length + 1 ≤ xs.length := by have := runsL_len xs; rw [hxs] at this; simp at this; omega
        have hL0 : (headB ++ pre.flatMap lineB).length ≤ 7 + pre.length * 160 := by
          have := flat_le lineB 160 lineB_len pre
          rw [List.length_append]
          show 7 + _ ≤ _
          omega
        clear hmem hm1 hlt hall
        have hline : lineB x = [100, 111] ++ (fldL x).flatMap pcB ++ autoB x.1.f5 ++ resetB x.1.f6 ++ [10] := rfl
        obtain ⟨⟨vx1, vx2, vx3, vx4, vx5, f5, f6⟩, n⟩ := x
        simp only [okC, Bool.and_eq_true, decide_eq_true_eq] at hokx
        dsimp only at hm2 hcb
        obtain ⟨vx0, hvx0⟩ : ∃ v : Int, (n : Int) = v := ⟨_, rfl⟩
        have hvx0b : 0 ≤ vx0 ∧ vx0 ≤ 16777216 := by omega
        have hfl : fldL ((⟨vx1, vx2, vx3, vx4, vx5, f5, f6⟩ : Ctl), n) = [vx0, vx1, vx2, vx3, vx4, vx5] := by rw [← hvx0]; rfl
        rw [hfl] at hline
        have HLINE := Lib.hid hline
        clear hline hfl
        obtain ⟨L0, hL0e⟩ : ∃ L0, headB ++ pre.flatMap lineB = L0 := ⟨_, rfl⟩
        have HL0 := Lib.hid hL0e
        rw [hL0e] at hbl hL0
        clear hL0e
        have hbW : b ≤ W.heap.size := by obtain ⟨_, hbb⟩ := hbl.block; have := (Array.getElem?_eq_some_iff.1 hbb).1; omega
        have hcbb : cb ≠ b := by rintro rfl; obtain ⟨_, hbb⟩ := hbl.block; rw [hcb] at hbb; cases hbb
        have hws := ws_any b b L0 ⟨#[100, 111]⟩ W hbl (by show _ + 2 ≤ _; omega) hbW
        unfold ctlV
        dsimp only
        rw [hvx0]
        gi_wp2_with fail
        refine ⟨trivial, CallsIn.inRound l ((callsIn_wide.2 hws).mono ?_)⟩
        rintro e W1 ⟨rfl, hbl1, hb1, hk1⟩
        clear hws
        have hF1 : Fr b b W W1 := ⟨hb1, hk1⟩
        have hcb1 := hF1.cells hcb (by decide) hcbb
        have hc1 : CtlAt W1 ⟨cb, 0, none⟩ ⟨vx1, vx2, vx3, vx4, vx5, f5, f6⟩ := CtlAt.of_block hcb1
        obtain ⟨q0, q1, q2, q3, q4, q5, q6⟩ := hc1
        dsimp only at q0 q1 q2 q3 q4 q5 q6
        gi_wp2_with fail
        gi_loopw [32] (fun v32 wr => Hid (RowRel b (L0 ++ [100, 111]) [vx0, vx1, vx2, vx3, vx4, vx5] W v32 wr)) (fun v32 wr => 6 - (intOf v32).toNat)
        case atStart => exact ⟨0, by omega, rfl, by simpa using hbl1, hF1⟩
        case round =>
          have hr := hrel.out
          clear hrel
          obtain ⟨i, hi6, rfl, hblr, hFr⟩ := hr
          have hbr : b ≤ wr.heap.size := by have := hFr.1.size; omega
          have hlr : (L0 ++ [100, 111] ++ ([vx0, vx1, vx2, vx3, vx4, vx5].take i).flatMap pcB).length ≤ 7 + pre.length * 160 + 2 + 6 * 23 := by
            have h1 := flat_le pcB 23 pcB_len ([vx0, vx1, vx2, vx3, vx4, vx5].take i)
            have h2 : ([vx0, vx1, vx2, vx3, vx4, vx5].take i).length ≤ 6 := by simp; omega
            rw [List.length_append, List.length_append, List.length_cons, List.length_cons, List.length_nil]
            omega
          have hcase : i = 0 ∨ i = 1 ∨ i = 2 ∨ i = 3 ∨ i = 4 ∨ i = 5 ∨ i = 6 := by omega
          rcases hcase with rfl | rfl | rfl | rfl | rfl | rfl | rfl
          · have hw := whole_any vx0 wr (by omega) (by omega)
            gi_wp2_with fail
            refine ⟨trivial, CallsIn.inRound l ((callsIn_wide.2 hw).mono ?_)⟩
            rintro e w4 ⟨rfl, hb4⟩
            clear hw
            have hs4 := wholeS_size vx0
            have hsz4 : ((⟨#[32]⟩ : ByteArray) ++ wholeS vx0).size ≤ 23 := by rw [ByteArray.size_append]; show 1 + _ ≤ 23; omega
            have hadd4 : (⟨#[32]⟩ : ByteArray).size + (wholeS vx0).size ≤ 9223372036854775807 := by show 1 + _ ≤ _; omega
            have hws := ws_any b b _ (⟨#[32]⟩ ++ wholeS vx0) w4 (hblr.below hb4) (by omega) (by have := hb4.size; omega)
            gi_wp2_with fail
            refine ⟨trivial, CallsIn.inRound l ((callsIn_wide.2 hws).mono ?_)⟩
            rintro e w5 ⟨rfl, hbl5, hb5, hk5⟩
            clear hws
            have hnx := RowRel.next (fl := [vx0, vx1, vx2, vx3, vx4, vx5]) (i := 0) rfl (by omega) hFr hb4 hbr hbl5 hb5 hk5
            clear hbl5 hb5 hk5 hb4 hblr hFr
            gi_wp2_with fail
            go_roundw
            case rel => exact hnx
            case measure => decide
          · have hw := whole_any vx1 wr (by omega) (by omega)
            gi_wp2_with fail
            refine ⟨trivial, CallsIn.inRound l ((callsIn_wide.2 hw).mono ?_)⟩
            rintro e w4 ⟨rfl, hb4⟩
            clear hw
            have hs4 := wholeS_size vx1
            have hsz4 : ((⟨#[32]⟩ : ByteArray) ++ wholeS vx1).size ≤ 23 := by rw [ByteArray.size_append]; show 1 + _ ≤ 23; omega
            have hadd4 : (⟨#[32]⟩ : ByteArray).size + (wholeS vx1).size ≤ 9223372036854775807 := by show 1 + _ ≤ _; omega
            have hws := ws_any b b _ (⟨#[32]⟩ ++ wholeS vx1) w4 (hblr.below hb4) (by omega) (by have := hb4.size; omega)
            gi_wp2_with fail
            refine ⟨trivial, CallsIn.inRound l ((callsIn_wide.2 hws).mono ?_)⟩
            rintro e w5 ⟨rfl, hbl5, hb5, hk5⟩
            clear hws
            have hnx := RowRel.next (fl := [vx0, vx1, vx2, vx3, vx4, vx5]) (i := 1) rfl (by omega) hFr hb4 hbr hbl5 hb5 hk5
            clear hbl5 hb5 hk5 hb4 hblr hFr
            gi_wp2_with fail
            go_roundw
            case rel => exact hnx
            case measure => decide
          · have hw := whole_any vx2 wr (by omega) (by omega)
            gi_wp2_with fail
            refine ⟨trivial, CallsIn.inRound l ((callsIn_wide.2 hw).mono ?_)⟩
            rintro e w4 ⟨rfl, hb4⟩
            clear hw
            have hs4 := wholeS_size vx2
            have hsz4 : ((⟨#[32]⟩ : ByteArray) ++ wholeS vx2).size ≤ 23 := by rw [ByteArray.size_append]; show 1 + _ ≤ 23; omega
            have hadd4 : (⟨#[32]⟩ : ByteArray).size + (wholeS vx2).size ≤ 9223372036854775807 := by show 1 + _ ≤ _; omega
            have hws := ws_any b b _ (⟨#[32]⟩ ++ wholeS vx2) w4 (hblr.below hb4) (by omega) (by have := hb4.size; omega)
            gi_wp2_with fail
            refine ⟨trivial, CallsIn.inRound l ((callsIn_wide.2 hws).mono ?_)⟩
            rintro e w5 ⟨rfl, hbl5, hb5, hk5⟩
            clear hws
            have hnx := RowRel.next (fl := [vx0, vx1, vx2, vx3, vx4, vx5]) (i := 2) rfl (by omega) hFr hb4 hbr hbl5 hb5 hk5
            clear hbl5 hb5 hk5 hb4 hblr hFr
            gi_wp2_with fail
            go_roundw
            case rel => exact hnx
            case measure => decide
          · have hw := whole_any vx3 wr (by omega) (by omega)
            gi_wp2_with fail
            refine ⟨trivial, CallsIn.inRound l ((callsIn_wide.2 hw).mono ?_)⟩
            rintro e w4 ⟨rfl, hb4⟩
            clear hw
            have hs4 := wholeS_size vx3
            have hsz4 : ((⟨#[32]⟩ : ByteArray) ++ wholeS vx3).size ≤ 23 := by rw [ByteArray.size_append]; show 1 + _ ≤ 23; omega
            have hadd4 : (⟨#[32]⟩ : ByteArray).size + (wholeS vx3).size ≤ 9223372036854775807 := by show 1 + _ ≤ _; omega
            have hws := ws_any b b _ (⟨#[32]⟩ ++ wholeS vx3) w4 (hblr.below hb4) (by omega) (by have := hb4.size; omega)
            gi_wp2_with fail
            refine ⟨trivial, CallsIn.inRound l ((callsIn_wide.2 hws).mono ?_)⟩
            rintro e w5 ⟨rfl, hbl5, hb5, hk5⟩
            clear hws
            have hnx := RowRel.next (fl := [vx0, vx1, vx2, vx3, vx4, vx5]) (i := 3) rfl (by omega) hFr hb4 hbr hbl5 hb5 hk5
            clear hbl5 hb5 hk5 hb4 hblr hFr
            gi_wp2_with fail
            go_roundw
            case rel => exact hnx
            case measure => decide
          · have hw := whole_any vx4 wr (by omega) (by omega)
            gi_wp2_with fail
            refine ⟨trivial, CallsIn.inRound l ((callsIn_wide.2 hw).mono ?_)⟩
            rintro e w4 ⟨rfl, hb4⟩
            clear hw
            have hs4 := wholeS_size vx4
            have hsz4 : ((⟨#[32]⟩ : ByteArray) ++ wholeS vx4).size ≤ 23 := by rw [ByteArray.size_append]; show 1 + _ ≤ 23; omega
            have hadd4 : (⟨#[32]⟩ : ByteArray).size + (wholeS vx4).size ≤ 9223372036854775807 := by show 1 + _ ≤ _; omega
            have hws := ws_any b b _ (⟨#[32]⟩ ++ wholeS vx4) w4 (hblr.below hb4) (by omega) (by have := hb4.size; omega)
            gi_wp2_with fail
            refine ⟨trivial, CallsIn.inRound l ((callsIn_wide.2 hws).mono ?_)⟩
            rintro e w5 ⟨rfl, hbl5, hb5, hk5⟩
            clear hws
            have hnx := RowRel.next (fl := [vx0, vx1, vx2, vx3, vx4, vx5]) (i := 4) rfl (by omega) hFr hb4 hbr hbl5 hb5 hk5
            clear hbl5 hb5 hk5 hb4 hblr hFr
            gi_wp2_with fail
            go_roundw
            case rel => exact hnx
            case measure => decide
          · have hw := whole_any vx5 wr (by omega) (by omega)
            gi_wp2_with fail
            refine ⟨trivial, CallsIn.inRound l ((callsIn_wide.2 hw).mono ?_)⟩
            rintro e w4 ⟨rfl, hb4⟩
            clear hw
            have hs4 := wholeS_size vx5
            have hsz4 : ((⟨#[32]⟩ : ByteArray) ++ wholeS vx5).size ≤ 23 := by rw [ByteArray.size_append]; show 1 + _ ≤ 23; omega
            have hadd4 : (⟨#[32]⟩ : ByteArray).size + (wholeS vx5).size ≤ 9223372036854775807 := by show 1 + _ ≤ _; omega
            have hws := ws_any b b _ (⟨#[32]⟩ ++ wholeS vx5) w4 (hblr.below hb4) (by omega) (by have := hb4.size; omega)
            gi_wp2_with fail
            refine ⟨trivial, CallsIn.inRound l ((callsIn_wide.2 hws).mono ?_)⟩
            rintro e w5 ⟨rfl, hbl5, hb5, hk5⟩
            clear hws
            have hnx := RowRel.next (fl := [vx0, vx1, vx2, vx3, vx4, vx5]) (i := 5) rfl (by omega) hFr hb4 hbr hbl5 hb5 hk5
            clear hbl5 hb5 hk5 hb4 hblr hFr
            gi_wp2_with fail
            go_roundw
            case rel => exact hnx
            case measure => decide
          · have hbl6 : Bld b b (L0 ++ [100, 111] ++ [vx0, vx1, vx2, vx3, vx4, vx5].flatMap pcB) wr := hblr
            have hlr6 : (L0 ++ [100, 111] ++ [vx0, vx1, vx2, vx3, vx4, vx5].flatMap pcB).length ≤ 7 + pre.length * 160 + 2 + 6 * 23 := hlr
            clear hblr hlr q0 q1 q2 q3 q4 q5 q6
            generalize hL1 : L0 ++ [100, 111] ++ [vx0, vx1, vx2, vx3, vx4, vx5].flatMap pcB = L1 at hbl6 hlr6
            have HL1 := Lib.hid hL1
            clear hL1
            cases f5 with
            | false =>
              cases f6 with
              | false =>
                obtain ⟨p0, p1, p2, p3, p4, p5, p6⟩ : CtlAt wr ⟨cb, 0, none⟩ _ := CtlAt.of_block (x := ⟨vx1, vx2, vx3, vx4, vx5, false, false⟩) (hFr.cells hcb (by decide) hcbb)
                dsimp only at p0 p1 p2 p3 p4 p5 p6
                have hws := ws_any b b (L1) ⟨#[10]⟩ wr hbl6 (by (try simp only [List.length_append, List.length_cons, List.length_nil]); show _ + 1 ≤ _; omega) hbr
                gi_wp2_with fail
                refine ⟨trivial, CallsIn.inRound l ((callsIn_wide.2 hws).mono ?_)⟩
                rintro e w8 ⟨rfl, hbl8, hb_, hk_⟩
                have hF8 := hFr.trans ⟨hb_, hk_⟩
                have hr8 := Nat.le_trans hbr hb_.size
                clear hws hb_ hk_ hbl6 hFr hbr
                gi_wp2_with fail
                refine print_end HL0.out HLINE.out hu hbC hszw hbl hB hF8 ?_
                rw [← HL1.out] at hbl8
                simpa [autoB, resetB] using hbl8
              | true =>
                obtain ⟨p0, p1, p2, p3, p4, p5, p6⟩ : CtlAt wr ⟨cb, 0, none⟩ _ := CtlAt.of_block (x := ⟨vx1, vx2, vx3, vx4, vx5, false, true⟩) (hFr.cells hcb (by decide) hcbb)
                dsimp only at p0 p1 p2 p3 p4 p5 p6
                have hws := ws_any b b (L1) ⟨#[32, 114, 101, 115, 101, 116]⟩ wr hbl6 (by (try simp only [List.length_append, List.length_cons, List.length_nil]); show _ + 6 ≤ _; omega) hbr
                gi_wp2_with fail
                refine ⟨trivial, CallsIn.inRound l ((callsIn_wide.2 hws).mono ?_)⟩
                rintro e w7 ⟨rfl, hbl7, hb_, hk_⟩
                have hF7 := hFr.trans ⟨hb_, hk_⟩
                have hr7 := Nat.le_trans hbr hb_.size
                clear hws hb_ hk_ hbl6 hFr hbr
                have hws := ws_any b b (_) ⟨#[10]⟩ w7 hbl7 (by (try simp only [List.length_append, List.length_cons, List.length_nil]); show _ + 1 ≤ _; omega) hr7
                gi_wp2_with fail
                refine ⟨trivial, CallsIn.inRound l ((callsIn_wide.2 hws).mono ?_)⟩
                rintro e w8 ⟨rfl, hbl8, hb_, hk_⟩
                have hF8 := hF7.trans ⟨hb_, hk_⟩
                have hr8 := Nat.le_trans hr7 hb_.size
                clear hws hb_ hk_ hbl7 hF7 hr7
                gi_wp2_with fail
                refine print_end HL0.out HLINE.out hu hbC hszw hbl hB hF8 ?_
                rw [← HL1.out] at hbl8
                simpa [autoB, resetB] using hbl8
            | true =>
              obtain ⟨p0, p1, p2, p3, p4, p5, p6⟩ : CtlAt wr ⟨cb, 0, none⟩ _ := CtlAt.of_block (x := ⟨vx1, vx2, vx3, vx4, vx5, true, f6⟩) (hFr.cells hcb (by decide) hcbb)
              dsimp only at p0 p1 p2 p3 p4 p5 p6
              have hws := ws_any b b (L1) ⟨#[32, 97, 117, 116, 111]⟩ wr hbl6 (by (try simp only [List.length_append, List.length_cons, List.length_nil]); show _ + 5 ≤ _; omega) hbr
              gi_wp2_with fail
              refine ⟨trivial, CallsIn.inRound l ((callsIn_wide.2 hws).mono ?_)⟩
              rintro e w6 ⟨rfl, hbl66, hb_, hk_⟩
              have hF66 := hFr.trans ⟨hb_, hk_⟩
              have hr66 := Nat.le_trans hbr hb_.size
              clear hws hb_ hk_ hbl6 hFr hbr
              cases f6 with
              | false =>
                obtain ⟨p0, p1, p2, p3, p4, p5, p6⟩ : CtlAt w6 ⟨cb, 0, none⟩ _ := CtlAt.of_block (x := ⟨vx1, vx2, vx3, vx4, vx5, true, false⟩) (hF66.cells hcb (by decide) hcbb)
                dsimp only at p0 p1 p2 p3 p4 p5 p6
                have hws := ws_any b b (_) ⟨#[10]⟩ w6 hbl66 (by (try simp only [List.length_append, List.length_cons, List.length_nil]); show _ + 1 ≤ _; omega) hr66
                gi_wp2_with fail
                refine ⟨trivial, CallsIn.inRound l ((callsIn_wide.2 hws).mono ?_)⟩
                rintro e w8 ⟨rfl, hbl8, hb_, hk_⟩
                have hF8 := hF66.trans ⟨hb_, hk_⟩
                have hr8 := Nat.le_trans hr66 hb_.size
                clear hws hb_ hk_ hbl66 hF66 hr66
                gi_wp2_with fail
                refine print_end HL0.out HLINE.out hu hbC hszw hbl hB hF8 ?_
                rw [← HL1.out] at hbl8
                simpa [autoB, resetB] using hbl8
              | true =>
                obtain ⟨p0, p1, p2, p3, p4, p5, p6⟩ : CtlAt w6 ⟨cb, 0, none⟩ _ := CtlAt.of_block (x := ⟨vx1, vx2, vx3, vx4, vx5, true, true⟩) (hF66.cells hcb (by decide) hcbb)
                dsimp only at p0 p1 p2 p3 p4 p5 p6
                have hws := ws_any b b (_) ⟨#[32, 114, 101, 115, 101, 116]⟩ w6 hbl66 (by (try simp only [List.length_append, List.length_cons, List.length_nil]); show _ + 6 ≤ _; omega) hr66
                gi_wp2_with fail
                refine ⟨trivial, CallsIn.inRound l ((callsIn_wide.2 hws).mono ?_)⟩
                rintro e w7 ⟨rfl, hbl7, hb_, hk_⟩
                have hF7 := hF66.trans ⟨hb_, hk_⟩
                have hr7 := Nat.le_trans hr66 hb_.size
                clear hws hb_ hk_ hbl66 hF66 hr66
                have hws := ws_any b b (_) ⟨#[10]⟩ w7 hbl7 (by (try simp only [List.length_append, List.length_cons, List.length_nil]); show _ + 1 ≤ _; omega) hr7
                gi_wp2_with fail
                refine ⟨trivial, CallsIn.inRound l ((callsIn_wide.2 hws).mono ?_)⟩
                rintro e w8 ⟨rfl, hbl8, hb_, hk_⟩
                have hF8 := hF7.trans ⟨hb_, hk_⟩
                have hr8 := Nat.le_trans hr7 hb_.size
                clear hws hb_ hk_ hbl7 hF7 hr7
                gi_wp2_with fail
                refine print_end HL0.out HLINE.out hu hbC hszw hbl hB hF8 ?_
                rw [← HL1.out] at hbl8
                simpa [autoB, resetB] using hbl8
      case done =>
        rintro D W hD ⟨hbl, ⟨u, hu⟩, hB⟩ hK
        have hL0 : (headB ++ (runsL xs).flatMap lineB).length ≤ 7 + xs.length * 160 := by
          have h1 := flat_le lineB 160 lineB_len (runsL xs)
          have h2 := runsL_len xs
          rw [List.length_append]
          show 7 + _ ≤ _
          omega
        have hbW : b ≤ W.heap.size := by obtain ⟨_, hbb⟩ := hbl.block; have := (Array.getElem?_eq_some_iff.1 hbb).1; omega
        have hws := ws_any b b _ ⟨#[101, 110, 100, 10]⟩ W hbl (by show _ + 4 ≤ _; omega) hbW
        have HB := Lib.hid hB
        have HBL := Lib.hid hbl
        have hDC : C < D := Nat.lt_of_lt_of_le bN.lt hD
        have hDb : D ≠ b := by omega
        clear hB hbl
        dsimp only
        gi_wp2_with fail
        refine ⟨trivial, (callsIn_wide.2 hws).mono ?_⟩
        rintro e W5 ⟨rfl, hbl5, hb5, hk5⟩
        clear hws
        have hK5 : W5.heap[D]? = some (.deferred (some [])) := hk5 D _ hK (by simpa using hDb) (fun c fz e => by cases e)
        have hstr := Tryd.Builder_String_any_k b b _ W5 (Lib.IsBuilderF.of hbl5) (by have := hb5.size; omega)
        have hB5 := HB.out.trans (hb5.mono hszw)
        clear hb5 hk5 hK HBL hL0 hbl5
        gi_wp2_with fail
        refine ⟨trivial, (callsIn_wide.2 hstr).mono ?_⟩
        rintro e W6 ⟨rfl, _, hb6, hk6⟩
        clear hstr
        have hK6 : W6.heap[D]? = some (.deferred (some [])) := hk6 D _ hK5 (by simpa using hDb) (fun c fz e => by cases e)
        have hB6 := hB5.trans (hb6.mono hszw)
        clear hb6 hk6 hK5 hB5
        gi_wp2_with fail
        refine ⟨by simp, .inl ⟨_, _, rfl, run_takeDeferred hK6, ?_⟩⟩
        exact ⟨_, results_tmp2 rfl _ _ _, rfl, hB6.trans (belowK_b (w := w) (Nat.le_refl _) W6 D _ _ (by omega) hK6 rfl rfl)⟩
end Go.Proofs.YtbhbpopebmdemaaDoor
